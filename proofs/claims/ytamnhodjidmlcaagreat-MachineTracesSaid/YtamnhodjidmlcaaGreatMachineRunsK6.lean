/- Texts of the proof, one behind the other. -/
import Derived.Test.YtamnhodjidmlcaaGreatMachineRunsK5
import Derived.Test.YtamnhodjidmlcaaGreatMachineRunsK1
import Derived.WalkKit
import Derived.Defers
import Derived.Recover
import Derived.Test.YtamnhodjidmlcaaGreatAvDefer
import Derived.Test.YtamnhodjidmlcaaGreatProg
import Derived.RangeFuncNested
import Derived.RangeFuncBound
import Derived.RangeFuncCalls
import Derived.RangeFuncLeaves
import Derived.RangeFuncBox
import Derived.Shelf.Abstract
import Derived.Shelf.RegionOpen
import Derived.OwnWalkIn
import Derived.TacticsInMore
import Derived.LoopNIn
import Derived.LoopIn
import Derived.Maps.AppendAt
import Derived.Test.YtamnhodjidmlcaaGreatMachineRunsK2
import Derived.Test.YtamnhodjidmlcaaGreatMachineRunsK3
import Derived.Test.YtamnhodjidmlcaaGreatMachineRunsK4
section
namespace Go.Av
open Go
abbrev qb0:Ty:=.pair qee (.pair .str (.pair .str .unit))
abbrev qbD:Ty:=.pair (.int .i64) (.pair (.int .i64) (.pair (.int .i64) (.pair (.int .i64) .unit)))
abbrev qgR:List Ty:=[(.int .i64)]
abbrev qji:Sh:=Sh.ty Ty.str
def qq1 (x:qc qgR):PO (Sh.den qji) :=
 (.ret ([toByte (IntKind.wrap IntKind.u8 (Int.tmod (qp x) 256)),toByte (IntKind.wrap IntKind.u8 (Int.tmod (w64 (Int.tdiv (qp x) 256)) 256)),toByte (IntKind.wrap IntKind.u8 (Int.tmod (w64 (Int.tdiv (qp x) 65536)) 256)),toByte (IntKind.wrap IntKind.u8 (w64 (Int.tdiv (qp x) 16777216)))]))
def qmp (_:qc qgR):Bool:=true
def qb7 (x:qc qgR):Sh.den qji:=qcP x
theorem qBh (m k:Nat) (hm:m<4294967296):w64 (Int.tdiv (m:Int) (k:Int))=((m / k:Nat):Int):=by
 have h:Int.tdiv (m:Int) (k:Int)=((m / k:Nat):Int):=rfl
 have h2:m / k≤m:=Nat.div_le_self _ _
 rw[h]
 generalize m / k=q at *
 exact qt (by omega) (by omega)
theorem qBp (m k:Nat):Int.tmod (m:Int) (k:Int)=((m % k:Nat):Int):=rfl
theorem qvf (x:qc qgR) (_:qmp x=true):(qq1 x).val=some (qb7 x):=by
 show some [toByte (IntKind.wrap IntKind.u8 (Int.tmod (wn x:Int) ((256:Nat):Int))),toByte (IntKind.wrap IntKind.u8 (Int.tmod (w64 (Int.tdiv (wn x:Int) ((256:Nat):Int))) ((256:Nat):Int))),toByte (IntKind.wrap IntKind.u8 (Int.tmod (w64 (Int.tdiv (wn x:Int) ((65536:Nat):Int))) ((256:Nat):Int))),toByte (IntKind.wrap IntKind.u8 (w64 (Int.tdiv (wn x:Int) ((16777216:Nat):Int))))]=some (qcP x)
 rw[qxr]
 have h:=qdC x
 rw[qBh _ _ h,qBh _ _ h,qBh _ _ h,qBp,qBp,qBp,qrc,qrc,qrc,qrc]
 have e:∀q:Nat,((q % 256:Nat):Int) % 256=((q % 256:Nat):Int):=fun q=>by omega
 have e2:((wn x / 16777216:Nat):Int) % 256=((wn x / 16777216 % 256:Nat):Int):=by omega
 rw[e,e,e,e2]
abbrev qiW:List Ty:=[.str]
abbrev qlz:Sh:=Sh.tup (Sh.pair (Sh.ty (Ty.int IntKind.i64)) (Sh.pair (Sh.ty Ty.bool) (Sh.ty Ty.unit)))
def qgW (x:qc qiW):PO (Sh.den qlz) :=
 (.ite (qg x != 4)
  (.ret ((0,false,())))
  (.ite (inRange 0 (List.length x)&&(inRange 1 (List.length x)&&(inRange 2 (List.length x)&&inRange 3 (List.length x))))
  (.ret ((w64 (w64 (w64 (w64 (u8I (List.getD x (Int.toNat 0) 0))+w64 (256*w64 (u8I (List.getD x (Int.toNat 1) 0))))+w64 (65536*w64 (u8I (List.getD x (Int.toNat 2) 0))))+w64 (16777216*w64 (u8I (List.getD x (Int.toNat 3) 0)))),true,())))
  .fail))
def qfh (x:qc qiW):Bool:=(qgW x).val.isSome
def qgZ (x:qc qiW):Sh.den qlz:=(qgW x).qP default
theorem qxn (x:qc qiW) (h:qfh x=true):(qgW x).val=some (qgZ x):=PO.qb4 default h
abbrev qfx:List Ty:=[qee,(.int .i64)]
abbrev qhL:Sh:=Sh.tup (Sh.pair (Sh.osl 32 qhN) (Sh.pair (Sh.ty (Ty.int IntKind.i64)) (Sh.ty Ty.unit)))
def qfv (x:qc qfx):PO (Sh.den qhL) :=
 (.ite (qbc x != 0)
  (.ret (([],qbc x,())))
  (.ret (([(0,x.2,false,()),(536936448,x.1.1,true,()),(537001984,x.1.2.1,true,()),(537133056,x.1.2.2.1,true,()),(537395200,x.1.2.2.1,true,()),(537919488,4,true,()),(538968064,4,true,())],0,()))))
def qlr (_:qc qfx):Bool:=true
def qci (x:qc qfx):Sh.den qhL:=(qfv x).qP default
theorem qt9 (x:qc qfx) (_:qlr x=true):(qfv x).val=some (qci x):=PO.qb1 default (by simp[qfv,PO.sure])
def qiK:LoopN where
 M:=[0,1,2,3,8,9,10]
 T:=[21,22,23,24,25,26,27,28,29,30,31,32,33,34,35,36,37,38,39,40,41,42,43,44,45,46,47,48,49,50,51,52,53,54,55,56,57,58,59,60,61,62,63,64,65,66,67,68,69]
 D:=[0,1,2,3,10]
 ss:=[.ty (.sl qI),.ty (.int .i64),.ty (.int .i64),.ty .bool,.ty (.int .i64),.ty (.int .i64),.ty (.int .i64)]
 hs:=[]
 es:=[.exit 0,.ret]
 σ:=(Ty.den (.int .i64))×(Ty.den (.int .i64))×(Ty.den (.int .i64))
 x0:=fun x _=>(x.2.2.2.2.1,x.2.2.2.2.2.1,x.2.2.2.2.2.2)
 put:=fun x _ s=>((x.1,x.2.1,x.2.2.1,x.2.2.2.1,s.1,s.2.1,s.2.2),())
 fuel:=fun x _=>List.length x.1+1
 turn:=fun x _ s =>
 (.ite (decide (s.2.2<qg x.1))
  (.ite (inRange s.2.2 (List.length x.1)&&bif decide (x.2.1≥(List.getD x.1 (Int.toNat s.2.2) (Ty.dflt qI)).1) then inRange s.2.2 (List.length x.1)&&bif decide ((List.getD x.1 (Int.toNat s.2.2) (Ty.dflt qI)).2.1≥x.2.2.1) then inRange s.2.2 (List.length x.1)&&inRange s.2.2 (List.length x.1) else true else true)
  (.ite (decide (x.2.1≥(List.getD x.1 (Int.toNat s.2.2) (Ty.dflt qI)).1)&&(decide ((List.getD x.1 (Int.toNat s.2.2) (Ty.dflt qI)).2.1≥x.2.2.1)&&decide (w64 (x.2.1-(List.getD x.1 (Int.toNat s.2.2) (Ty.dflt qI)).1)≤w64 ((List.getD x.1 (Int.toNat s.2.2) (Ty.dflt qI)).2.1-x.2.2.1))))
   (.ite (bif x.2.2.2.1 then inRange s.2.2 (List.length x.1) else true)
   (.ite (x.2.2.2.1&&!(List.getD x.1 (Int.toNat s.2.2) (Ty.dflt qI)).2.2.1)
    (.ret (.out 1 (0,8,s.2.2)))
    (.ret (.out 1 (s.2.2,0,s.2.2))))
   .fail)
   (.ret (.on (s.1,s.2.1,w64 (s.2.2+1)))))
  .fail)
  (.ret (.out 0 (s.1,s.2.1,s.2.2))))
abbrev qhx:List Ty:=[(.sl qI),(.int .i64),(.int .i64),.bool]
abbrev qj3:Sh:=Sh.tup (Sh.pair (Sh.ty (Ty.int IntKind.i64)) (Sh.pair (Sh.ty (Ty.int IntKind.i64)) (Sh.ty Ty.unit)))
def qnf (x:qc qhx):PO (Sh.den qj3) :=
 (.ite (x.2.2.1 != 1&&x.2.2.1 != 4)
  (.ret ((0,2,())))
  (.ite (!x.2.2.1==0)
  (.ite (Int.tmod x.2.1 x.2.2.1 != 0)
   (.ret ((0,8,())))
   (.opt (LoopN.res qiK (x.1,x.2.1,x.2.2.1,x.2.2.2,0,0,0) ()) fun p0 =>
   (.ite (way p0.1)
    (.ret ((0,8,())))
    (.ret ((p0.2.1,p0.2.2.1,()))))))
  .fail))
def qjW (x:qc qhx):Bool:=decide (qq2 x.1∧(show Int from x.2.1)<9223372036854775808)
def qj2 (x:qc qhx):Sh.den qj3:=qfE x.1 x.2.1 x.2.2.1 x.2.2.2
theorem qzM (l:List (Int×Int×Bool×Unit)) (a n:Int) (w:Bool) (hl:l.length<4611686018427387904) (hr:∀r∈l,qrT r) (hn:0≤n) (ha:a<9223372036854775808) :
  ∀(k i:Nat),i+k=l.length→∃p,qcE (qiK.turn (l,a,n,w,0,0,0) ()) (k+1) ((0:Int),(0:Int),(i:Int))=some p ∧
   (bif way p.1 then((0:Int),(8:Int),()) else(p.2.1,p.2.2.1,()))=match qiN a n w (l.drop i) with
   |some j=>(((i+j:Nat):Int),(0:Int),())
   |none=>((0:Int),(8:Int),())
 |0,i,hi=>by
  rw[List.drop_of_length_le (by omega)]
  exact⟨_,qbk (c:=0) (s':=((0:Int),(0:Int),(i:Int))) (qu (qS (by show ¬((i:Int)<((l.length:Nat):Int));omega))),rfl⟩
 |k+1,i,hi=>by
  have hlt:i<l.length:=by omega
  have hd:l.drop i=l[i]::l.drop (i+1):=List.drop_eq_getElem_cons hlt
  have hg:List.getD l (Int.toNat (i:Int)) (Ty.dflt qI)=l[i]:=by rw[Int.toNat_natCast];exact qgY l _ hlt
  have he:=has_eq l[i] a n (hr _ (List.getElem_mem hlt)) hn ha
  have hT:(decide (a≥(l[i]).1)&&(decide ((l[i]).2.1≥n)&&decide (w64 (a-(l[i]).1)≤w64 ((l[i]).2.1-n))))=hasB l[i] a n:=he
  have hin:inRange (i:Int) (List.length l)=true:=inR hlt
  have g1:(inRange (i:Int) (List.length l)&&bif decide (a≥(List.getD l (Int.toNat (i:Int)) (Ty.dflt qI)).1) then inRange (i:Int) (List.length l)&&bif decide ((List.getD l (Int.toNat (i:Int)) (Ty.dflt qI)).2.1≥n) then inRange (i:Int) (List.length l)&&inRange (i:Int) (List.length l) else true else true)=true:=by
   rw[hin]
   cases decide (a≥(List.getD l (Int.toNat (i:Int)) (Ty.dflt qI)).1)<;>cases decide ((List.getD l (Int.toNat (i:Int)) (Ty.dflt qI)).2.1≥n)<;>rfl
  have g2:(bif w then inRange (i:Int) (List.length l) else true)=true:=by rw[hin];cases w<;>rfl
  rw[hd]
  cases hh:hasB l[i] a n with
  |false =>
   obtain⟨p,h1,h2⟩:=qzM l a n w hl hr hn ha k (i+1) (by omega)
   refine⟨p,(qcr (s':=((0:Int),(0:Int),((i+1:Nat):Int))) ((qd (qJ (by show((i:Int)<((l.length:Nat):Int));omega))).trans ((qd g1).trans ((qu ?_).trans ?_)))).trans h1,?_⟩
   ·show(decide (a≥(List.getD l (Int.toNat (i:Int)) (Ty.dflt qI)).1)&&(decide ((List.getD l (Int.toNat (i:Int)) (Ty.dflt qI)).2.1≥n)&&decide (w64 (a-(List.getD l (Int.toNat (i:Int)) (Ty.dflt qI)).1)≤w64 ((List.getD l (Int.toNat (i:Int)) (Ty.dflt qI)).2.1-n))))=false
    rw[hg,hT,hh]
   ·show some (TL.on ((0:Int),(0:Int),w64 ((i:Int)+1)))=_
    rw[qt (by omega) (by omega)]
    rfl
   ·rw[h2]
    simp only[qiN,hh,cond_false]
    cases qiN a n w (l.drop (i+1)) with
    |none=>rfl
    |some j =>
     show(((i+1+j:Nat):Int),(0:Int),())=(((i+(j+1):Nat):Int),(0:Int),())
     rw[show i+1+j=i+(j+1) by omega]
  |true =>
   simp only[qiN,hh,cond_true]
   have k0:(decide (a≥(List.getD l (Int.toNat (i:Int)) (Ty.dflt qI)).1)&&(decide ((List.getD l (Int.toNat (i:Int)) (Ty.dflt qI)).2.1≥n)&&decide (w64 (a-(List.getD l (Int.toNat (i:Int)) (Ty.dflt qI)).1)≤w64 ((List.getD l (Int.toNat (i:Int)) (Ty.dflt qI)).2.1-n))))=true:=by
    rw[hg,hT,hh]
   cases hw:(w&&!(l[i]).2.2.1) with
   |true =>
    refine⟨(1,(0,8,(i:Int))),qbk ((qd (qJ (by show((i:Int)<((l.length:Nat):Int));omega))).trans ((qd g1).trans ((qd k0).trans ((qd g2).trans ((qd ?_).trans rfl))))),rfl⟩
    show(w&&!(List.getD l (Int.toNat (i:Int)) (Ty.dflt qI)).2.2.1)=true
    rw[hg,hw]
   |false =>
    refine⟨(1,((i:Int),0,(i:Int))),qbk ((qd (qJ (by show((i:Int)<((l.length:Nat):Int));omega))).trans ((qd g1).trans ((qd k0).trans ((qd g2).trans ((qu ?_).trans rfl))))),rfl⟩
    show(w&&!(List.getD l (Int.toNat (i:Int)) (Ty.dflt qI)).2.2.1)=false
    rw[hg,hw]
theorem qwt (x:qc qhx) (h:qjW x=true):(qnf x).val=some (qj2 x):=by
 obtain⟨l,a,n,w⟩:=x
 obtain⟨⟨hl,hr⟩,ha⟩:=of_decide_eq_true h
 unfold qnf
 show _=some (qfE l a n w)
 unfold qfE
 cases c1:(n != 1&&n != 4) with
 |true=>exact(qd rfl).trans rfl
 |false =>
  refine(qu rfl).trans ?_
  have hn:n=1∨n=4:=by simpa only[Bool.and_eq_false_iff,bne_eq_false_iff_eq] using c1
  have hn0:(!n==(0:Int))=true:=by rcases hn with rfl |rfl<;>rfl
  refine(qd hn0).trans ?_
  show(PO.ite (Int.tmod a n != 0) _ _).val=_
  cases c2:(Int.tmod a n != 0) with
  |true=>exact(qd rfl).trans rfl
  |false =>
   refine(qu rfl).trans ?_
   obtain⟨p,h1,h2⟩:=qzM l a n w hl hr (by rcases hn with rfl |rfl<;>decide) ha l.length 0 (by omega)
   refine(qde (r:=p) h1).trans ?_
   rw[List.drop_zero] at h2
   cases hp:way p.1 with
   |true =>
    rw[hp] at h2
    refine(qd rfl).trans ?_
    cases hf:qiN a n w l with
    |none=>rfl
    |some j =>
     rw[hf] at h2
     exact absurd (congrArg (fun q:Int×Int×Unit=>q.2.1) h2) (by show ¬(8:Int)=0;decide)
   |false =>
    rw[hp] at h2
    refine(qu rfl).trans (congrArg some (h2.trans ?_))
    cases qiN a n w l with
    |none=>rfl
    |some j=>simp
abbrev qhg:List Ty:=[qb0,(.int .i64),(.int .i64),.bool]
abbrev qj1:Sh:=Sh.ty (Ty.int IntKind.i64)
def qnk (x:qc qhg):PO (Sh.den qj1) :=
 (.ite (qjW ((qci (x.1.1,qg x.1.2.1)).1,x.2))
  (.ret ((qj2 ((qci (x.1.1,qg x.1.2.1)).1,x.2)).2.1))
  .fail)
instance (l:List qbD.den):Decidable (∀x∈l,0≤(show Int from x.2.1)∧(show Int from x.2.1)<4611686018427387904):=inferInstance
abbrev rgX (s:qb0.den):List (Int×Int×Bool×Unit):=qcO s.1 (qg s.2.1)
def qqa (s:qb0.den):Prop:=qbc (s.1,qg s.2.1)=(0:Int)∧qq2 (rgX s)∧List.length s.2.1<4611686018427387904∧List.length s.2.2.1<4611686018427387904
instance (s:qb0.den):Decidable (qqa s):=by
 unfold qqa
 have:Decidable (qbc (s.1,qg s.2.1)=(0:Int)):=inferInstanceAs (Decidable ((show Int from qbc (s.1,qg s.2.1))=0))
 infer_instance
theorem qAl {s:qb0.den} (h:qqa s):qci (s.1,qg s.2.1)=(rgX s,0,()):=by
 unfold qci PO.qP qfv
 rw[qu (by rw[h.1];rfl)]
 rfl
def qdd (x:qc qhg):Bool:=decide (qqa x.1∧(show Int from x.2.1)<9223372036854775808)
def qcN (x:qc qhg):Sh.den qj1:=(qfE (rgX x.1) x.2.1 x.2.2.1 x.2.2.2).2.1
theorem qvR (x:qc qhg) (h:qdd x=true):(qnk x).val=some (qcN x):=by
 obtain⟨h1,h2⟩:=of_decide_eq_true h
 unfold qnk
 rw[qAl h1]
 exact(qd (decide_eq_true ⟨h1.2.1,h2⟩)).trans rfl
def qd1:LoopN where
 M:=[1,2,3,6,7]
 T:=[8,12,13,14,15,16,17,18,19,20,21,22,23,24,25,26,27,28,29,30,31,32,33,34,35,36,37,38,39,40,41,42,43,44,45,46,47,48,49,50,51,52,53,54,55]
 D:=[1,7]
 ss:=[.ty (.sl qbD),.ty (.int .i64),.box 0 0,.ty (.int .i64),.ty (.int .i64)]
 hs:=[.ty qb0]
 es:=[.exit 0,.ret]
 σ:=(Ty.den (.int .i64))×(Ty.den (.int .i64))×(Sh.den (.ty qb0))
 x0:=fun x y=>(x.2.2.2.1,x.2.2.2.2,y)
 put:=fun x _ s=>((x.1,x.2.1,x.2.2.1,s.1,s.2.1),s.2.2)
 fuel:=fun x _=>List.length x.1+1
 turn:=fun x _ s =>
 (.ite (decide (s.2.1≥0))
  (.ite (inRange s.2.1 (List.length x.1))
  (.ite (bif (List.getD x.1 (Int.toNat s.2.1) (Ty.dflt qbD)).1 != 0 then bif decide (x.2.1≥(List.getD x.1 (Int.toNat s.2.1) (Ty.dflt qbD)).2.1) then bif decide (w64 (x.2.1-(List.getD x.1 (Int.toNat s.2.1) (Ty.dflt qbD)).2.1)<(List.getD x.1 (Int.toNat s.2.1) (Ty.dflt qbD)).2.2.1) then qdd (s.2.2,(List.getD x.1 (Int.toNat s.2.1) (Ty.dflt qbD)).2.1,(List.getD x.1 (Int.toNat s.2.1) (Ty.dflt qbD)).2.2.1,true) else true else true else true)
   (.ite ((List.getD x.1 (Int.toNat s.2.1) (Ty.dflt qbD)).1 != 0&&(decide (x.2.1≥(List.getD x.1 (Int.toNat s.2.1) (Ty.dflt qbD)).2.1)&&(decide (w64 (x.2.1-(List.getD x.1 (Int.toNat s.2.1) (Ty.dflt qbD)).2.1)<(List.getD x.1 (Int.toNat s.2.1) (Ty.dflt qbD)).2.2.1)&&qcN (s.2.2,(List.getD x.1 (Int.toNat s.2.1) (Ty.dflt qbD)).2.1,(List.getD x.1 (Int.toNat s.2.1) (Ty.dflt qbD)).2.2.1,true)==0)))
   (.ite (inRange (w64 (x.2.1-(List.getD x.1 (Int.toNat s.2.1) (Ty.dflt qbD)).2.1)) (List.length (qb7 (List.getD x.1 (Int.toNat s.2.1) (Ty.dflt qbD)).2.2.2.1)))
    (.ret (.out 1 (w64 (u8I (List.getD (qb7 (List.getD x.1 (Int.toNat s.2.1) (Ty.dflt qbD)).2.2.2.1) (Int.toNat (w64 (x.2.1-(List.getD x.1 (Int.toNat s.2.1) (Ty.dflt qbD)).2.1))) 0)),s.2.1,s.2.2)))
    .fail)
   (.ret (.on (s.1,w64 (s.2.1-1),s.2.2))))
   .fail)
  .fail)
  (.ret (.out 0 (s.1,s.2.1,s.2.2))))
abbrev qfI:List Ty:=[qb0,(.sl qbD),(.int .i64)]
abbrev qit:Sh:=Sh.ty (Ty.int IntKind.i64)
def qiE (x:qc qfI):PO (Sh.den qit) :=
 (.opt (LoopN.res qd1 (x.2.1,x.2.2,(),0,w64 (qg x.2.1-1)) x.1) fun p0 =>
  (.ite (way p0.1)
  (.ite (decide (x.2.2<qg p0.2.2.2.2.1))
   (.ite (inRange x.2.2 (List.length p0.2.2.2.2.1))
   (.ret (w64 (u8I (List.getD p0.2.2.2.2.1 (Int.toNat x.2.2) 0))))
   .fail)
   (.ite (decide (x.2.2≥536936448)&&decide (x.2.2<w64 (536936448+qg p0.2.2.2.2.2.1)))
   (.ite (inRange (w64 (x.2.2-536936448)) (List.length p0.2.2.2.2.2.1))
    (.ret (w64 (u8I (List.getD p0.2.2.2.2.2.1 (Int.toNat (w64 (x.2.2-536936448))) 0))))
    .fail)
   (.ret (0))))
  (.ret (p0.2.1))))
def qhX (l:List qbD.den):Prop:=l.length<4611686018427387904∧∀x∈l,0≤(show Int from x.2.1)∧(show Int from x.2.1)<4611686018427387904
instance (l:List qbD.den):Decidable (qhX l):=by
 unfold qhX
 have:Decidable (∀x∈l,0≤(show Int from x.2.1)∧(show Int from x.2.1)<4611686018427387904):=List.decidableBAll _ l
 infer_instance
def qvN (s:qb0.den) (a:Int) (x:qbD.den):Bool:=x.1 != 0&&(decide (a≥x.2.1)&&(decide (a-x.2.1<x.2.2.1)&&(qfE (rgX s) x.2.1 x.2.2.1 true).2.1==0))
def qnA (s:qb0.den) (a:Int) (l:List qbD.den):Nat→Option Int
 |0=>none
 |i+1=>bif qvN s a (l.getD i (Ty.dflt qbD)) then some (List.getD (qic (l.getD i (Ty.dflt qbD)).2.2.2.1) (a-(l.getD i (Ty.dflt qbD)).2.1).toNat 0) else qnA s a l i
def qzX (s:qb0.den) (a:Int):Int :=
 bif decide (a<qg s.2.1) then u8I (List.getD s.2.1 a.toNat 0)
 else bif decide (a≥536936448)&&decide (a<536936448+qg s.2.2.1) then u8I (List.getD s.2.2.1 (a-536936448).toNat 0) else 0
def qdq (s:qb0.den) (l:List qbD.den) (a:Int):Int :=
 match qnA s a l l.length with
 |some b=>b
 |none=>qzX s a
theorem qlN (b:UInt8):w64 (u8I b)=u8I b:=by
 have:=b.toNat_lt
 exact qt (by show(-9223372036854775808:Int)≤((b.toNat:Nat):Int);omega) (by show((b.toNat:Nat):Int)<(9223372036854775808:Int);omega)
theorem qBW {l:List (Int×Int×Bool×Unit)} {a n:Int} {w:Bool} (h:((qfE l a n w).2.1==(0:Int))=true):n=1∨n=4:=by
 rcases qm9 l a n w with⟨e,he,h2⟩ |⟨j,_,hn,_,_⟩
 ·rw[h2] at h
  exact absurd (by simpa using h) he
 ·exact hn
theorem qqF (l:List UInt8) (i:Nat):u8I (List.getD l i 0)=List.getD (qdl l) i 0:=by
 unfold qdl
 rw[List.getD_eq_getElem?_getD,List.getD_eq_getElem?_getD,List.getElem?_map]
 cases l[i]?<;>rfl
theorem qG2 (s:qb0.den) (hs:qqa s) (l:List qbD.den) (hl:qhX l) (a:Int) (ha:0≤a∧a<4611686018427387904) (i0 r0:Int):∀(n:Nat),n≤l.length →
  ∃p,qcE (qd1.turn (l,a,(),r0,i0) s) (n+1) (r0,(n:Int)-1,s)=some p∧p.2.2.2=s ∧
   match qnA s a l n with
   |some b=>way p.1=false∧p.2.1=b
   |none=>way p.1=true
 |0,_=>⟨_,qbk (c:=0) ((qu (qS (by show ¬(((0:Nat):Int)-1≥0);decide))).trans rfl),rfl,rfl⟩
 |n+1,hn=>by
  have hi:n<l.length:=by omega
  have e1:((n+1:Nat):Int)-1=(n:Int):=by omega
  rw[e1]
  have hg:List.getD l (Int.toNat (n:Int)) (Ty.dflt qbD)=l.getD n (Ty.dflt qbD):=by rw[Int.toNat_natCast]
  have hmem:l.getD n (Ty.dflt qbD)∈l:=by
   rw[List.getD_eq_getElem?_getD,List.getElem?_eq_getElem hi]
   exact List.getElem_mem hi
  obtain⟨xb1,xb2⟩:=hl.2 _ hmem
  have hlt:decide ((n:Int)≥0)=true:=qJ (by omega)
  generalize hx:l.getD n (Ty.dflt qbD)=x at *
  have hw:w64 (a-x.2.1)=a-x.2.1:=qt (by show(-9223372036854775808:Int)≤a-(show Int from x.2.1);omega) (by show a-(show Int from x.2.1)<(9223372036854775808:Int);omega)
  have hGf:qdd (s,x.2.1,x.2.2.1,true)=true:=decide_eq_true ⟨hs,by show(show Int from x.2.1)<(9223372036854775808:Int);omega⟩
  have g1:(bif x.1 != (0:Int) then bif decide (a≥x.2.1) then bif decide (w64 (a-x.2.1)<x.2.2.1) then qdd (s,x.2.1,x.2.2.1,true) else true else true else true)=true:=by
   rw[hGf]
   cases (x.1 != (0:Int))<;>cases decide (a≥x.2.1)<;>cases decide (w64 (a-x.2.1)<x.2.2.1)<;>rfl
  have hc:(x.1 != (0:Int)&&(decide (a≥x.2.1)&&(decide (w64 (a-x.2.1)<x.2.2.1)&&qcN (s,x.2.1,x.2.2.1,true)==0)))=qvN s a x:=by
   rw[hw]
   rfl
  cases hcv:qvN s a x with
  |true =>
   have hcv':=hcv
   unfold qvN at hcv'
   simp only[Bool.and_eq_true,decide_eq_true_eq] at hcv'
   obtain⟨_,q1,q2,q3⟩:=hcv'
   have q1:(show Int from x.2.1)≤a:=q1
   have q2:a-(show Int from x.2.1)<(show Int from x.2.2.1):=q2
   have hn4:(show Int from x.2.2.1)≤4:=by rcases qBW q3 with h |h<;>rw[show(show Int from x.2.2.1)=_ from h]<;>decide
   have hin:inRange (w64 (a-x.2.1)) (List.length (qb7 x.2.2.2.1))=true:=by
    rw[hw]
    have:List.length (qb7 x.2.2.2.1)=4:=by
     show List.length (qcP x.2.2.2.1)=4
     rw[qxr]
     rfl
    rw[this]
    simp only[inRange,Bool.and_eq_true,decide_eq_true_eq]
    constructor
    ·show(0:Int)≤a-(show Int from x.2.1);omega
    ·show a-(show Int from x.2.1)<((4:Nat):Int);omega
   refine⟨(1,(w64 (u8I (List.getD (qb7 x.2.2.2.1) (Int.toNat (w64 (a-x.2.1))) 0)),(n:Int),s)),qbk ((qd hlt).trans ((qd (inR hi)).trans ((qd (by rw[hg];exact g1)).trans ((qd (by rw[hg];exact hc.trans hcv)).trans ((qd (by rw[hg];exact hin)).trans ?_))))),rfl,?_⟩
   ·rw[hg]
    rfl
   ·rw[qnA,hx,hcv]
    refine⟨rfl,?_⟩
    show w64 (u8I (List.getD (qcP x.2.2.2.1) (Int.toNat (w64 (a-x.2.1))) 0))=List.getD (qic x.2.2.2.1) (a-x.2.1).toNat 0
    rw[qlN,hw,qqF]
    rfl
  |false =>
   obtain⟨p,h1,h2,h3⟩:=qG2 s hs l hl a ha i0 r0 n (by omega)
   have ht:(qd1.turn (l,a,(),r0,i0) s (r0,(n:Int),s)).val=some (TL.on (r0,(n:Int)-1,s)):=by
    refine(qd hlt).trans ?_
    refine(qd (inR hi)).trans ?_
    refine(qd (by rw[hg];exact g1)).trans ?_
    refine(qu (by rw[hg];exact hc.trans hcv)).trans ?_
    show some (TL.on (r0,w64 ((n:Int)-1),s))=_
    rw[qt (by omega) (by have:=hl.1;omega)]
   refine⟨p,(qcr ht).trans h1,h2,?_⟩
   ·rw[qnA,hx,hcv]
    exact h3
def qdQ (x:qc qfI):Bool:=decide (qqa x.1∧qhX x.2.1∧0≤(show Int from x.2.2)∧(show Int from x.2.2)<4611686018427387904)
def qeB (x:qc qfI):Sh.den qit:=qdq x.1 x.2.1 x.2.2
theorem qLn (s:qb0.den) (l:List qbD.den) (a:Int) (h1:qqa s) (h2:qhX l) (h3:0≤a) (h4:a<4611686018427387904):(qiE (s,l,a)).val=some (qdq s l a):=by
 unfold qiE
 obtain⟨p,e1,e2,e3⟩:=qG2 s h1 l h2 a ⟨h3,h4⟩ (w64 (qg l-1)) 0 l.length (Nat.le_refl _)
 have hlen:=h2.1
 have hw:w64 (qg l-1)=(l.length:Int)-1:=qt (by simp only[qg];omega) (by simp only[qg];omega)
 refine(qde (r:=p) (by
  unfold LoopN.res
  refine Eq.trans ?_ e1
  show qcE (qd1.turn (l,a,(),0,w64 (qg l-1)) s) (List.length l+1) (0,w64 (qg l-1),s)=_
  rw[hw])).trans ?_
 unfold qdq
 cases hl:qnA s a l l.length with
 |some b =>
  rw[hl] at e3
  exact(qu e3.1).trans (congrArg some e3.2)
 |none =>
  rw[hl] at e3
  refine(qd e3).trans ?_
  rw[e2]
  unfold qzX
  obtain⟨_,_,s3,s4⟩:=h1
  cases c1:decide (a<qg s.2.1) with
  |true =>
   refine(qd rfl).trans ((qd ?_).trans ?_)
   ·have:a<qg s.2.1:=of_decide_eq_true c1
    simp only[qg] at this
    simp only[inRange,Bool.and_eq_true,decide_eq_true_eq]
    exact⟨h3,this⟩
   ·show some (w64 (u8I (List.getD s.2.1 (Int.toNat a) 0)))=_
    rw[qlN]
    rfl
  |false =>
   refine(qu rfl).trans ?_
   have w1:w64 (536936448+qg s.2.2.1)=536936448+qg s.2.2.1:=by simp only[qg];exact qt (by omega) (by omega)
   show(PO.ite (decide (a≥536936448)&&decide (a<w64 (536936448+qg s.2.2.1))) _ _).val=_
   rw[w1]
   cases c2:(decide (a≥536936448)&&decide (a<536936448+qg s.2.2.1)) with
   |true =>
    simp only[Bool.and_eq_true,decide_eq_true_eq,qg] at c2
    have c3:(536936448:Int)≤a:=c2.1
    have c4:a<(536936448:Int)+((List.length s.2.2.1:Nat):Int):=c2.2
    have w2:w64 (a-536936448)=a-536936448:=qt (by omega) (by omega)
    refine(qd rfl).trans ((qd ?_).trans ?_)
    ·rw[w2]
     simp only[inRange,Bool.and_eq_true,decide_eq_true_eq]
     exact⟨by omega,by omega⟩
    ·show some (w64 (u8I (List.getD s.2.2.1 (Int.toNat (w64 (a-536936448))) 0)))=_
     rw[qlN,w2]
     rfl
   |false=>exact(qu rfl).trans rfl
theorem quN (x:qc qfI) (h:qdQ x=true):(qiE x).val=some (qeB x) :=
 have q:=of_decide_eq_true h
 qLn x.1 x.2.1 x.2.2 q.1 q.2.1 q.2.2.1 q.2.2.2
def qfW:LoopN where
 M:=[1,2,4,11,12]
 T:=[22,23,24,25,26,27,28,29,30,31,32,33,34]
 D:=[1,2,4,12]
 ss:=[.ty (.sl qbD),.ty (.int .i64),.box 0 0,.ty (.int .i64),.ty (.int .i64)]
 hs:=[.ty qb0]
 es:=[.exit 0]
 σ:=(Ty.den (.int .i64))×(Ty.den (.int .i64))×(Sh.den (.ty qb0))
 x0:=fun x y=>(x.2.2.2.1,x.2.2.2.2,y)
 put:=fun x _ s=>((x.1,x.2.1,x.2.2.1,s.1,s.2.1),s.2.2)
 fuel:=fun _ _=>5
 turn:=fun x _ s =>
 (.ite (decide (s.2.1≥0))
  (.ite (qdQ (s.2.2,x.1,w64 (x.2.1+s.2.1)))
  (.ret (.on (w64 (w64 (256*s.1)+qeB (s.2.2,x.1,w64 (x.2.1+s.2.1))),w64 (s.2.1-1),s.2.2)))
  .fail)
  (.ret (.out 0 (s.1,s.2.1,s.2.2))))
abbrev qhj:List Ty:=[qb0,(.sl qbD),(.int .i64),(.int .i64)]
abbrev qj0:Sh:=Sh.tup (Sh.pair (Sh.ty (Ty.int IntKind.i64)) (Sh.pair (Sh.ty (Ty.int IntKind.i64)) (Sh.ty Ty.unit)))
def qjZ (x:qc qhj):PO (Sh.den qj0) :=
 (.ite (qdd (x.1,x.2.2.1,x.2.2.2,false))
  (.ite (qcN (x.1,x.2.2.1,x.2.2.2,false) != 0)
  (.ret ((0,qcN (x.1,x.2.2.1,x.2.2.2,false),())))
  (.opt (LoopN.res qfW (x.2.1,x.2.2.1,(),0,w64 (x.2.2.2-1)) x.1) fun p0 =>
   (.ret ((p0.2.1,0,())))))
  .fail)
theorem qoj (b:UInt8):0≤u8I b∧u8I b<256:=by
 have:=b.toNat_lt
 constructor
 ·show(0:Int)≤((b.toNat:Nat):Int);omega
 ·show((b.toNat:Nat):Int)<256;omega
theorem qrL (s:qb0.den) (l:List qbD.den) (a:Int):0≤qdq s l a∧qdq s l a<256:=by
 have hl:∀n b,qnA s a l n=some b→0≤b∧b<256:=by
  intro n
  induction n with
  |zero=>intro b h;cases h
  |succ n ih =>
   intro b h
   rw[qnA] at h
   cases hc:qvN s a (l.getD n (Ty.dflt qbD)) with
   |true =>
    rw[hc] at h
    cases h
    rw[show qic (l.getD n (Ty.dflt qbD)).2.2.2.1=qdl (qcP (l.getD n (Ty.dflt qbD)).2.2.2.1) from rfl,←qqF]
    exact qoj _
   |false =>
    rw[hc] at h
    exact ih b h
 unfold qdq
 cases h:qnA s a l l.length with
 |some b=>exact hl _ b h
 |none =>
  unfold qzX
  cases decide (a<qg s.2.1)
  ·cases (decide (a≥536936448)&&decide (a<536936448+qg s.2.2.1))
   ·exact⟨Int.le_refl 0,(by decide:(0:Int)<256)⟩
   ·exact qoj _
  ·exact qoj _
theorem qNA (s:qb0.den) (hs:qqa s) (l:List qbD.den) (hl:qhX l) (a:Int) (ha:0≤a∧a<2305843009213693952) (r0 i0 v i:Int) (hv:0≤v∧v<1099511627776) (hi:0≤i∧i≤3) :
  (qfW.turn (l,a,(),r0,i0) s (v,i,s)).val=some (TL.on (256*v+qdq s l (a+i),i-1,s)):=by
 have hb:=qrL s l (a+i)
 have hw:w64 (a+i)=a+i:=qt (by omega) (by omega)
 refine(qd (qJ (show i≥0 by omega))).trans ?_
 refine(qd ?_).trans ?_
 ·show qdQ (s,l,w64 (a+i))=true
  rw[hw]
  exact decide_eq_true ⟨hs,hl,by show(0:Int)≤a+i;omega,by show a+i<(4611686018427387904:Int);omega⟩
 ·show some (TL.on (w64 (w64 (256*v)+qdq s l (w64 (a+i))),w64 (i-1),s))=_
  rw[hw,qt (n:=256*v) (by omega) (by omega),qt (n:=256*v+qdq s l (a+i)) (by omega) (by omega),qt (n:=i-1) (by omega) (by omega)]
theorem qG8 (s:qb0.den) (l:List qbD.den) (a r0 i0 v:Int):(qfW.turn (l,a,(),r0,i0) s (v,-1,s)).val=some (TL.out 0 (v,-1,s)) :=
 (qu (qS (by show ¬(-1:Int)≥0;decide))).trans rfl
def qjM (s:qb0.den) (l:List qbD.den) (a:Int) (n:Nat):List Int:=(List.range n).map fun(i:Nat)=>qdq s l (a+(i:Int))
def qda (x:qc qhj):Bool:=decide (qqa x.1∧qhX x.2.1∧0≤(show Int from x.2.2.1)∧(show Int from x.2.2.1)<2305843009213693952)
def qzY (s:qb0.den) (l:List qbD.den) (a n:Int):Int×Int×Unit :=
 bif (qfE (rgX s) a n false).2.1 != 0 then(0,(qfE (rgX s) a n false).2.1,()) else(leV (qjM s l a n.toNat),0,())
def qbs (x:qc qhj):Sh.den qj0:=qzY x.1 x.2.1 x.2.2.1 x.2.2.2
theorem qOO (s:qb0.den) (l:List qbD.den) (a n:Int) (h1:qqa s) (h2:qhX l) (h3:0≤a) (h4:a<2305843009213693952):(qjZ (s,l,a,n)).val=some (qzY s l a n):=by
 unfold qjZ qzY
 refine(qd (decide_eq_true ⟨h1,by show a<(9223372036854775808:Int);omega⟩)).trans ?_
 show(PO.ite ((qfE (rgX s) a n false).2.1 != (0:Int)) _ _).val=_
 cases hf:((qfE (rgX s) a n false).2.1 != (0:Int)) with
 |true=>exact(qd rfl).trans rfl
 |false =>
  refine(qu rfl).trans ?_
  have hn:n=1∨n=4:=qBW (l:=rgX s) (a:=a) (w:=false) (by simpa using hf)
  have b0:=qrL s l (a+0)
  have b1:=qrL s l (a+1)
  have b2:=qrL s l (a+2)
  have b3:=qrL s l (a+3)
  have st:=qNA s h1 l h2 a ⟨h3,h4⟩ 0 (w64 (n-1))
  rcases hn with rfl |rfl
  ·refine(qde (r:=(0,(256*0+qdq s l (a+0),-1,s))) ?_).trans ?_
   ·unfold LoopN.res
    exact(qcr (st 0 0 (by omega) (by omega))).trans (qbk (qG8 s l a 0 _ _))
   ·show some (256*0+qdq s l (a+0),(0:Int),())=some (leV [qdq s l (a+((0:Nat):Int))],0,())
    unfold leV leV
    congr 2
    show _=qdq s l (a+0)+256*0
    omega
  ·refine(qde (r:=(0,(256*(256*(256*(256*0+qdq s l (a+3))+qdq s l (a+2))+qdq s l (a+1))+qdq s l (a+0),-1,s))) ?_).trans ?_
   ·unfold LoopN.res
    exact(qcr (st 0 3 (by omega) (by omega))).trans ((qcr (st _ 2 (by omega) (by omega))).trans ((qcr (st _ 1 (by omega) (by omega))).trans ((qcr (st _ 0 (by omega) (by omega))).trans (qbk (qG8 s l a 0 _ _)))))
   ·show some (256*(256*(256*(256*0+qdq s l (a+3))+qdq s l (a+2))+qdq s l (a+1))+qdq s l (a+0),(0:Int),())=some (leV [qdq s l (a+((0:Nat):Int)),qdq s l (a+((1:Nat):Int)),qdq s l (a+((2:Nat):Int)),qdq s l (a+((3:Nat):Int))],0,())
    unfold leV leV leV leV leV
    congr 2
    show _=qdq s l (a+0)+256*(qdq s l (a+1)+256*(qdq s l (a+2)+256*(qdq s l (a+3)+256*0)))
    omega
theorem qwd (x:qc qhj) (h:qda x=true):(qjZ x).val=some (qbs x) :=
 have q:=of_decide_eq_true h
 qOO x.1 x.2.1 x.2.2.1 x.2.2.2 q.1 q.2.1 q.2.2.1 q.2.2.2
def qff:LoopN where
 M:=[1,2,3,7,9,10]
 T:=[26,27,28,29,30,31,32,33,34,35,36,37,38,39,40,41,42,43,44,45,46,47,48]
 D:=[1,2,3,7,10]
 ss:=[.ty (.sl qbD),.ty (.int .i64),.box 0 0,.osl 0 qI,.osl 1 (.int .u8),.ty (.int .i64)]
 hs:=[.ty qb0]
 es:=[.exit 0]
 σ:=(Sh.den (.osl 1 (.int .u8)))×(Ty.den (.int .i64))×(Sh.den (.ty qb0))
 x0:=fun x y=>(x.2.2.2.2.1,x.2.2.2.2.2,y)
 put:=fun x _ s=>((x.1,x.2.1,x.2.2.1,x.2.2.2.1,s.1,s.2.1),s.2.2)
 fuel:=fun x _=>Int.toNat (List.getD x.2.2.2.1 (Int.toNat x.2.1) (Ty.dflt qI)).2.1+1
 turn:=fun x _ s =>
 (.ite (inRange x.2.1 (List.length x.2.2.2.1))
  (.ite (decide (s.2.1<(List.getD x.2.2.2.1 (Int.toNat x.2.1) (Ty.dflt qI)).2.1))
  (.ite (inRange x.2.1 (List.length x.2.2.2.1))
   (.ite (qdQ (s.2.2,x.1,w64 ((List.getD x.2.2.2.1 (Int.toNat x.2.1) (Ty.dflt qI)).1+s.2.1)))
   (.ite (Nat.ble ((List.length s.1+List.length [IntKind.wrap IntKind.u8 (qeB (s.2.2,x.1,w64 ((List.getD x.2.2.2.1 (Int.toNat x.2.1) (Ty.dflt qI)).1+s.2.1)))])*1) 140737488355328)
    (.ret (.on (s.1++[IntKind.wrap IntKind.u8 (qeB (s.2.2,x.1,w64 ((List.getD x.2.2.2.1 (Int.toNat x.2.1) (Ty.dflt qI)).1+s.2.1)))],w64 (s.2.1+1),s.2.2)))
    .fail)
   .fail)
   .fail)
  (.ret (.out 0 (s.1,s.2.1,s.2.2))))
  .fail)
abbrev qfU:List Ty:=[qb0,(.sl qbD),(.int .i64)]
abbrev qiH:Sh:=Sh.ty Ty.str
def qiM (x:qc qfU):PO (Sh.den qiH) :=
 (.ite (inRange x.2.2 (List.length (qci (x.1.1,qg x.1.2.1)).1)&&qgE (List.getD (qci (x.1.1,qg x.1.2.1)).1 (Int.toNat x.2.2) (Ty.dflt qhN)).2.1 1)
  (.opt (LoopN.res qff (x.2.1,x.2.2,(),(qci (x.1.1,qg x.1.2.1)).1,[],0) x.1) fun p0 =>
  (.ret (List.map toByte p0.2.1)))
  .fail)
theorem qMd {n:Int} (h:0≤n∧n<256):IntKind.u8.wrap n=n:=by
 rw[qrc]
 omega
theorem qzV (s:qb0.den) (hs:qqa s) (l:List qbD.den) (hl:qhX l) (k:Int) (rs:List (Int×Int×Bool×Unit)) (hk:inRange k rs.length=true) (r:Int×Int×Bool×Unit) (hr:List.getD rs (Int.toNat k) (Ty.dflt qI)=r) (hb:0≤r.1∧r.1<4294967296) (hn:0≤r.2.1∧r.2.1<4294967296) (o0:List Int) (j0:Int) :
  ∀(n i:Nat),(i:Int)+n=r.2.1→qcE (qff.turn (l,k,(),rs,o0,j0) s) (n+1) (qjM s l r.1 i,(i:Int),s)=some (0,(qjM s l r.1 (i+n),((i+n:Nat):Int),s))
 |0,i,h=>by
  refine qbk (c:=0) ?_
  refine(qd hk).trans ?_
  refine(qu ?_).trans rfl
  show decide ((i:Int)<(List.getD rs (Int.toNat k) (Ty.dflt qI)).2.1)=false
  rw[hr]
  exact qS (by omega)
 |n+1,i,h=>by
  have hw:w64 (r.1+(i:Int))=r.1+(i:Int):=qt (by omega) (by omega)
  have hbb:=qrL s l (r.1+(i:Int))
  have hlen:(qjM s l r.1 i).length=i:=by unfold qjM;rw[List.length_map,List.length_range]
  have ht:(qff.turn (l,k,(),rs,o0,j0) s (qjM s l r.1 i,(i:Int),s)).val=some (TL.on (qjM s l r.1 (i+1),((i+1:Nat):Int),s)):=by
   refine(qd hk).trans ?_
   refine(qd ?_).trans ?_
   ·show decide ((i:Int)<(List.getD rs (Int.toNat k) (Ty.dflt qI)).2.1)=true
    rw[hr]
    exact qJ (by omega)
   refine(qd hk).trans ?_
   refine(qd ?_).trans ?_
   ·show qdQ (s,l,w64 ((List.getD rs (Int.toNat k) (Ty.dflt qI)).1+(i:Int)))=true
    rw[hr,hw]
    exact decide_eq_true ⟨hs,hl,by show(0:Int)≤r.1+(i:Int);omega,by show r.1+(i:Int)<(4611686018427387904:Int);omega⟩
   refine(qd ?_).trans ?_
   ·show Nat.ble (((qjM s l r.1 i).length+1)*1) 140737488355328=true
    rw[hlen]
    exact Nat.ble_eq_true_of_le (by omega)
   ·show some (TL.on (qjM s l r.1 i++[IntKind.wrap IntKind.u8 (qdq s l (w64 ((List.getD rs (Int.toNat k) (Ty.dflt qI)).1+(i:Int))))],w64 ((i:Int)+1),s))=_
    rw[hr,hw,qMd hbb,qt (n:=(i:Int)+1) (by omega) (by omega)]
    unfold qjM
    rw[List.range_succ,List.map_append]
    rfl
  refine(qcr ht).trans ((qzV s hs l hl k rs hk r hr hb hn o0 j0 n (i+1) (by omega)).trans ?_)
  rw[show i+1+n=i+(n+1) by omega]
def qdK (x:qc qfU):Bool:=decide (qqa x.1∧qhX x.2.1∧0≤(show Int from x.2.2)∧(show Int from x.2.2)<7∧∀r∈rgX x.1,0≤r.1∧r.1<4294967296∧0≤r.2.1∧r.2.1<4294967296)
def qvj (s:qb0.den) (l:List qbD.den) (k:Int):List UInt8:=(qjM s l (List.getD (rgX s) k.toNat qbO).1 (List.getD (rgX s) k.toNat qbO).2.1.toNat).map toByte
def qcs (x:qc qfU):Sh.den qiH:=qvj x.1 x.2.1 x.2.2
theorem qLL (s:qb0.den) (l:List qbD.den) (k:Int) (h1:qqa s) (h2:qhX l) (h3:0≤k) (h4:k<7) (h5:∀r∈rgX s,0≤r.1∧r.1<4294967296∧0≤r.2.1∧r.2.1<4294967296):(qiM (s,l,k)).val=some (qvj s l k):=by
 unfold qiM qvj
 rw[qAl h1]
 have hlen:List.length (rgX s)=7:=rfl
 have hin:inRange k (List.length (rgX s))=true:=by
  rw[hlen]
  simp only[inRange,Bool.and_eq_true,decide_eq_true_eq]
  exact⟨h3,h4⟩
 have hi:k.toNat<(rgX s).length:=by rw[hlen];omega
 have hmem:List.getD (rgX s) k.toNat qbO∈rgX s:=by
  rw[List.getD_eq_getElem?_getD,List.getElem?_eq_getElem hi]
  exact List.getElem_mem hi
 have hd:List.getD (rgX s) (Int.toNat k) (Ty.dflt qI)=List.getD (rgX s) k.toNat qbO:=rfl
 obtain⟨q1,q2,q3,q4⟩:=h5 _ hmem
 generalize hr:List.getD (rgX s) k.toNat qbO=r at *
 refine(qd ?_).trans ?_
 ·show(inRange k (List.length (rgX s))&&qgE (List.getD (rgX s) (Int.toNat k) (Ty.dflt qI)).2.1 1)=true
  rw[hin,hd]
  simp only[qgE,Bool.true_and,Bool.and_eq_true,decide_eq_true_eq]
  exact⟨⟨q3,by omega⟩,by omega⟩
 ·refine(qde (r:=(0,(qjM s l r.1 (0+r.2.1.toNat),((0+r.2.1.toNat:Nat):Int),s))) ?_).trans ?_
  ·unfold LoopN.res
   have:=qzV s h1 l h2 k (rgX s) hin r hd ⟨q1,q2⟩ ⟨q3,q4⟩ [] 0 r.2.1.toNat 0 (by omega)
   refine Eq.trans ?_ this
   show qcE _ (Int.toNat (List.getD (rgX s) (Int.toNat k) (Ty.dflt qI)).2.1+1) ([],0,s)=_
   rw[hd]
   rfl
  ·rw[Nat.zero_add]
   rfl
theorem quX (x:qc qfU) (h:qdK x=true):(qiM x).val=some (qcs x) :=
 have q:=of_decide_eq_true h
 qLL x.1 x.2.1 x.2.2 q.1 q.2.1 q.2.2.1 q.2.2.2.1 q.2.2.2.2
abbrev qh9:List Ty:=[qb0]
abbrev qkM:Sh:=Sh.ty (Ty.int IntKind.i64)
def qhY (x:qc qh9):PO (Sh.den qkM) :=
 (.ite (qbc (x.1,qg x.2.1)==0&&qg x.2.2.1 != x.1.1)
  (.ret (2))
  (.ret (qbc (x.1,qg x.2.1))))
def qnH (_:qc qh9):Bool:=true
def qeP (x:qc qh9):Sh.den qkM:=(qhY x).qP default
theorem qw5 (x:qc qh9) (_:qnH x=true):(qhY x).val=some (qeP x):=PO.qb1 default (by simp[qhY,PO.sure])
abbrev qgI:List Ty:=[(.int .i64),(.int .i64)]
abbrev qjj:Sh:=Sh.ty Ty.bool
def qjg (x:qc qgI):PO (Sh.den qjj) :=
 (.ret (decide (x.1≥64)&&(decide (x.1<x.2)&&Int.tmod x.1 2==0)))
def qms (_:qc qgI):Bool:=true
def qcB (x:qc qgI):Sh.den qjj:=(qjg x).qP default
theorem qvF (x:qc qgI) (_:qms x=true):(qjg x).val=some (qcB x):=PO.qb1 default (by simp[qjg,PO.sure])
def qjP (h:qcH.den):List Int:=[537133056,w64 (h.1+1),w64 (h.2.1+1),w64 (h.2.1+1),w64 (h.2.1+1),w64 (h.2.1+1),w64 (h.2.1+1),h.2.2.1.1,h.2.2.1.2.1,h.2.2.1.2.2.1,h.2.2.2.1,w64 (h.2.1+1),w64 (h.2.1+1),w64 (h.2.1+1),w64 (h.2.1+1),w64 (h.2.1+1)]
def qxW:List Int→List UInt8→PO (List UInt8)
 |[],t=>.ret t
 |v::l,t=>.ite (Nat.ble (List.length t+List.length (qb7 v)) 9223372036854775807) (qxW l (t++qb7 v)) .fail
abbrev qgV:List Ty:=[qcH]
abbrev qi3:Sh:=Sh.ty Ty.str
def qgD (x:qc qgV):PO (Sh.den qi3):=qxW (qjP x) []
def qd4 (x:qc qgV):Bool:=(qgD x).val.isSome
def qcV (x:qc qgV):Sh.den qi3:=(qgD x).qP default
theorem qvs (x:qc qgV) (h:qd4 x=true):(qgD x).val=some (qcV x):=PO.qb4 default h
abbrev qgl:List Ty:=[qcH,.str]
abbrev qjo:Sh:=Sh.tup (Sh.pair (Sh.ty Ty.str) (Sh.pair (Sh.ty (Ty.int IntKind.i64)) (Sh.ty Ty.unit)))
def qe3 (x:qc qgl):PO (Sh.den qjo) :=
 (.ite (qbc (x.1.2.2.1,w64 (64+qg x.2)) != 0)
  (.ret (([],qbc (x.1.2.2.1,w64 (64+qg x.2)),())))
  (.ite (decide (x.1.2.2.2.1<0)||(decide (x.1.2.2.2.1 > 2)||(!qcB (x.1.1,w64 (64+qg x.2))||true)))
  (.ite (decide (x.1.2.2.2.1<0)||(decide (x.1.2.2.2.1 > 2)||(!qcB (x.1.1,w64 (64+qg x.2))||!qcB (x.1.2.1,w64 (64+qg x.2)))))
   (.ret (([],2,())))
   (.ite (qd4 x.1&&Nat.ble (List.length (qcV x.1)+List.length x.2) 9223372036854775807)
   (.ret ((qcV x.1++x.2,0,())))
   .fail))
  .fail))
def qeX (x:qc qgl):Bool:=(qe3 x).val.isSome
def qd7 (x:qc qgl):Sh.den qjo:=(qe3 x).qP default
theorem qu8 (x:qc qgl) (h:qeX x=true):(qe3 x).val=some (qd7 x):=PO.qb4 default h
abbrev qi1:List Ty:=[.str,(.int .i64)]
abbrev qlE:Sh:=Sh.ty (Ty.int IntKind.i64)
def qgX (x:qc qi1):PO (Sh.den qlE) :=
 (.ite (decide (0≤w64 (w64 (4*x.2)+4))&&decide (w64 (w64 (4*x.2)+4)≤qg x.1)&&decide (0≤w64 (4*x.2))&&decide (w64 (4*x.2)≤w64 (w64 (4*x.2)+4))&&qfh (List.drop (Int.toNat (w64 (4*x.2))) (List.take (Int.toNat (w64 (w64 (4*x.2)+4))) x.1)))
  (.ret ((qgZ (List.drop (Int.toNat (w64 (4*x.2))) (List.take (Int.toNat (w64 (w64 (4*x.2)+4))) x.1))).1))
  .fail)
def qcS (x:qc qi1):Bool:=(qgX x).val.isSome
def qx (x:qc qi1):Sh.den qlE:=(qgX x).qP default
theorem qxf (x:qc qi1) (h:qcS x=true):(qgX x).val=some (qx x):=PO.qb4 default h
abbrev qgr:List Ty:=[.str]
abbrev qjm:Sh:=Sh.tup (Sh.pair (Sh.ty (Ty.pair (Ty.int IntKind.i64) (Ty.pair (Ty.int IntKind.i64) (Ty.pair qee (Ty.pair (Ty.int IntKind.i64) Ty.unit))))) (Sh.pair (Sh.ty (Ty.int IntKind.i64)) (Sh.ty Ty.unit)))
def qeW (x:qc qgr):PO (Sh.den qjm) :=
 (.ite (decide (qg x<64))
  (.ret (((0,0,(0,0,0,()),0,()),3,())))
  (.ite (qcS (x,1))
  (.ite (qcS (x,3))
   (.ite (qcS (x,7))
   (.ite (qcS (x,8))
    (.ite (qcS (x,9))
    (.ite (qcS (x,10))
     (.ite (decide (qg x≤qg x)&&true&&decide (64≤qg x)&&qeX ((w64 (qx (x,1)-1),w64 (qx (x,3)-1),(qx (x,7),qx (x,8),qx (x,9),()),qx (x,10),()),List.drop (Int.toNat 64) (List.take (Int.toNat (qg x)) x)))
     (.ite ((qd7 ((w64 (qx (x,1)-1),w64 (qx (x,3)-1),(qx (x,7),qx (x,8),qx (x,9),()),qx (x,10),()),List.drop (Int.toNat 64) (List.take (Int.toNat (qg x)) x))).2.1 != 0||!(qd7 ((w64 (qx (x,1)-1),w64 (qx (x,3)-1),(qx (x,7),qx (x,8),qx (x,9),()),qx (x,10),()),List.drop (Int.toNat 64) (List.take (Int.toNat (qg x)) x))).1==x)
      (.ret (((0,0,(0,0,0,()),0,()),4,())))
      (.ret (((w64 (qx (x,1)-1),w64 (qx (x,3)-1),(qx (x,7),qx (x,8),qx (x,9),()),qx (x,10),()),0,()))))
     .fail)
     .fail)
    .fail)
    .fail)
   .fail)
   .fail)
  .fail))
def qd3 (x:qc qgr):Bool:=(qeW x).val.isSome
def qbA (x:qc qgr):Sh.den qjm:=(qeW x).qP default
theorem qu4 (x:qc qgr) (h:qd3 x=true):(qeW x).val=some (qbA x):=PO.qb4 default h
end Go.Av
end
section
namespace Go.Av
open Go
abbrev quM (r:Nat):Sh:=.pair (.ty qcH) (.pair (.ty qb0) (.pair (.ty qC) (.pair (.ty .bool) (.pair (.osl r qbD) (.ty .unit)))))
abbrev qtY:Ty:=.pair qcH (.pair qb0 (.pair qC (.pair .bool (.pair (.sl qbD) .unit))))
abbrev qgq:List Ty:=[qB]
abbrev qjk:Sh:=Sh.ty (Ty.int IntKind.i64)
def qgw (x:qc qgq):PO (Sh.den qjk) :=
 (.ite (decide (x.2.1≥0)&&(x.1==0||(x.1==1||(x.1==2&&(decide (x.2.2.1≥0)&&(decide (x.2.2.1<15)&&(decide (x.2.2.2.1≥0)&&decide (x.2.2.2.1<32))))||x.1==3&&(decide (x.2.2.2.1≥0)&&decide (x.2.2.2.1<4))))))
  (.ret (0))
  (.ret (2)))
def qmD (_:qc qgq):Bool:=true
def qbS (x:qc qgq):Sh.den qjk:=(qgw x).qP default
theorem qvp (x:qc qgq) (_:qmD x=true):(qgw x).val=some (qbS x):=PO.qb1 default (by simp[qgw,PO.sure])
abbrev qil:List Ty:=[qC,qB]
abbrev qk2:Sh:=Sh.ty qC
def qf4 (x:qc qil):PO (Sh.den qk2) :=
 (.ite (x.2.1==2)
  (.ite (inRange x.2.2.2.1 15)
  (.ite (inRange x.2.2.2.1 15)
   (.ite (x.2.1==3)
   (.ret ((List.set x.1.1 (Int.toNat x.2.2.2.1) (qen (List.getD x.1.1 (Int.toNat x.2.2.2.1) (Ty.dflt (Ty.int IntKind.i64)),x.2.2.2.2.1)),x.1.2.1,!x.1.2.2.1==(x.2.2.2.2.1==0),!x.1.2.2.2.1==(x.2.2.2.2.1==1),!x.1.2.2.2.2.1==(x.2.2.2.2.1==2),!x.1.2.2.2.2.2.1==(x.2.2.2.2.1==3),x.1.2.2.2.2.2.2)))
   (.ret ((List.set x.1.1 (Int.toNat x.2.2.2.1) (qen (List.getD x.1.1 (Int.toNat x.2.2.2.1) (Ty.dflt (Ty.int IntKind.i64)),x.2.2.2.2.1)),x.1.2))))
   .fail)
  .fail)
  (.ite (x.2.1==3)
  (.ret ((x.1.1,x.1.2.1,!x.1.2.2.1==(x.2.2.2.2.1==0),!x.1.2.2.2.1==(x.2.2.2.2.1==1),!x.1.2.2.2.2.1==(x.2.2.2.2.1==2),!x.1.2.2.2.2.2.1==(x.2.2.2.2.1==3),x.1.2.2.2.2.2.2)))
  (.ret (x.1))))
def qdY (x:qc qil):Bool:=(qf4 x).val.isSome
def qbx (x:qc qil):Sh.den qk2:=(qf4 x).qP default
theorem qw3 (x:qc qil) (h:qdY x=true):(qf4 x).val=some (qbx x):=PO.qb4 default h
abbrev qgp:List Sh:=[quM 0,.ty qB]
abbrev qgo:List Sh:=[]
abbrev qdc:Sh:=Sh.tup (Sh.pair (Sh.pair (Sh.ty (Ty.pair (Ty.int IntKind.i64) (Ty.pair (Ty.int IntKind.i64) (Ty.pair qee (Ty.pair (Ty.int IntKind.i64) Ty.unit))))) (Sh.pair (Sh.ty (Ty.pair qee (Ty.pair Ty.str (Ty.pair Ty.str Ty.unit)))) (Sh.pair (Sh.ty qC) (Sh.pair (Sh.ty Ty.bool) (Sh.pair (Sh.osl 0 qB) (Sh.ty Ty.unit)))))) (Sh.pair (Sh.ty qB) (Sh.ty Ty.unit)))
abbrev qdA:List Sh:=[]
def qyx (m:Sh.den (quM 0)) (h:qC.den) (i:q9.den):PO (Sh.den qdc×qk qdA) :=
 (.ite ((qi (h,i)).2.1&&(qi (h,i)).1.2.2.2.1)
     (.ite (qdd (m.2.1,(qi (h,i)).1.1,(qi (h,i)).1.2.1,true))
      (.ite (qcN (m.2.1,(qi (h,i)).1.1,(qi (h,i)).1.2.1,true) != 0)
      (.ret (((m.1,m.2.1,(h.1,m.1.2.1,h.2.2),m.2.2.2),(2,h.2.1,(qi (h,i)).1.1,12,()),()),()))
      (.ite (Nat.ble ((List.length m.2.2.2.2.1+List.length [(1,(qi (h,i)).1.1,(qi (h,i)).1.2.1,(qi (h,i)).1.2.2.1,())])*32) 140737488355328)
       (.ite ((qi (h,i)).2.1&&!(qi (h,i)).1.2.2.2.1)
       (.ite (qda (m.2.1,m.2.2.2.2.1++[(1,(qi (h,i)).1.1,(qi (h,i)).1.2.1,(qi (h,i)).1.2.2.1,())],(qi (h,i)).1.1,(qi (h,i)).1.2.1))
        (.ite ((qbs (m.2.1,m.2.2.2.2.1++[(1,(qi (h,i)).1.1,(qi (h,i)).1.2.1,(qi (h,i)).1.2.2.1,())],(qi (h,i)).1.1,(qi (h,i)).1.2.1)).2.1 != 0)
        (.ret (((m.1,m.2.1,(h.1,m.1.2.1,h.2.2),m.2.2.2.1,m.2.2.2.2.1++[(1,(qi (h,i)).1.1,(qi (h,i)).1.2.1,(qi (h,i)).1.2.2.1,())],m.2.2.2.2.2),(2,h.2.1,(qi (h,i)).1.1,12,()),()),()))
        (.ite (qdE (h,i,(qbs (m.2.1,m.2.2.2.2.1++[(1,(qi (h,i)).1.1,(qi (h,i)).1.2.1,(qi (h,i)).1.2.2.1,())],(qi (h,i)).1.1,(qi (h,i)).1.2.1)).1))
         (.ret (((m.1,m.2.1,(qcu (h,i,(qbs (m.2.1,m.2.2.2.2.1++[(1,(qi (h,i)).1.1,(qi (h,i)).1.2.1,(qi (h,i)).1.2.2.1,())],(qi (h,i)).1.1,(qi (h,i)).1.2.1)).1)).1,!(qcu (h,i,(qbs (m.2.1,m.2.2.2.2.1++[(1,(qi (h,i)).1.1,(qi (h,i)).1.2.1,(qi (h,i)).1.2.2.1,())],(qi (h,i)).1.1,(qi (h,i)).1.2.1)).1)).2.1,m.2.2.2.2.1++[(1,(qi (h,i)).1.1,(qi (h,i)).1.2.1,(qi (h,i)).1.2.2.1,())],m.2.2.2.2.2),(0,h.2.1,(qi (h,i)).1.1,qdg (h,i),()),()),()))
         .fail))
        .fail)
       (.ite (qdE (h,i,0))
        (.ret (((m.1,m.2.1,(qcu (h,i,0)).1,!(qcu (h,i,0)).2.1,m.2.2.2.2.1++[(1,(qi (h,i)).1.1,(qi (h,i)).1.2.1,(qi (h,i)).1.2.2.1,())],m.2.2.2.2.2),(0,h.2.1,(qi (h,i)).1.1,qdg (h,i),()),()),()))
        .fail))
       .fail))
      .fail)
     (.ite ((qi (h,i)).2.1&&!(qi (h,i)).1.2.2.2.1)
      (.ite (qda (m.2.1,m.2.2.2.2.1,(qi (h,i)).1.1,(qi (h,i)).1.2.1))
      (.ite ((qbs (m.2.1,m.2.2.2.2.1,(qi (h,i)).1.1,(qi (h,i)).1.2.1)).2.1 != 0)
       (.ret (((m.1,m.2.1,(h.1,m.1.2.1,h.2.2),m.2.2.2),(2,h.2.1,(qi (h,i)).1.1,12,()),()),()))
       (.ite (qdE (h,i,(qbs (m.2.1,m.2.2.2.2.1,(qi (h,i)).1.1,(qi (h,i)).1.2.1)).1))
       (.ret (((m.1,m.2.1,(qcu (h,i,(qbs (m.2.1,m.2.2.2.2.1,(qi (h,i)).1.1,(qi (h,i)).1.2.1)).1)).1,!(qcu (h,i,(qbs (m.2.1,m.2.2.2.2.1,(qi (h,i)).1.1,(qi (h,i)).1.2.1)).1)).2.1,m.2.2.2.2),(0,h.2.1,(qi (h,i)).1.1,qdg (h,i),()),()),()))
       .fail))
      .fail)
      (.ite (qdE (h,i,0))
      (.ret (((m.1,m.2.1,(qcu (h,i,0)).1,!(qcu (h,i,0)).2.1,m.2.2.2.2),(0,h.2.1,(qi (h,i)).1.1,qdg (h,i),()),()),()))
      .fail)))
def qAL (m:Sh.den (quM 0)) (h:qC.den) (k:q9.den×Int×Int×Unit→PO (Sh.den qdc×qk qdA)):PO (Sh.den qdc×qk qdA) :=
 (.ite (Int.tmod h.2.1 2 != 0||decide (h.2.1≥qg m.2.1.2.1))
   (.ret (((m.1,m.2.1,(h.1,m.1.2.1,h.2.2),m.2.2.2),(2,h.2.1,0,12,()),()),()))
   (.ite (decide (0≤qo2 (w64 (h.2.1+4)) (qg m.2.1.2.1))&&decide (qo2 (w64 (h.2.1+4)) (qg m.2.1.2.1)≤qg m.2.1.2.1)&&decide (0≤h.2.1)&&decide (h.2.1≤qo2 (w64 (h.2.1+4)) (qg m.2.1.2.1)))
   (.ite (qez (List.drop (Int.toNat h.2.1) (List.take (Int.toNat (qo2 (w64 (h.2.1+4)) (qg m.2.1.2.1))) m.2.1.2.1)))
    (.ite ((qdN (List.drop (Int.toNat h.2.1) (List.take (Int.toNat (qo2 (w64 (h.2.1+4)) (qg m.2.1.2.1))) m.2.1.2.1))).2.2.1 != 0)
    (.ret (((m.1,m.2.1,(h.1,m.1.2.1,h.2.2),m.2.2.2),(2,h.2.1,0,12,()),()),()))
    (k (qdN (List.drop (Int.toNat h.2.1) (List.take (Int.toNat (qo2 (w64 (h.2.1+4)) (qg m.2.1.2.1))) m.2.1.2.1)))))
    .fail)
   .fail))
def qzW (m:Sh.den (quM 0)) (h:qC.den) (d:q9.den×Int×Int×Unit):PO (Sh.den qdc×qk qdA) :=
 (.ret (((m.1,m.2.1,(h.1,qii (h.2.1,d.2.1),h.2.2),m.2.2.2),(1,h.2.1,0,1,()),()),()))
def qeo (x:qk qgp) (_:qk qgo):PO (Sh.den qdc×qk qdA) :=
 (.ite (qbS x.2 != 0)
  (.ite (qdY (x.1.2.2.1,0,0,0,0,()))
  (qAL x.1 (qbx (x.1.2.2.1,0,0,0,0,())) fun d=>qyx x.1 (qbx (x.1.2.2.1,0,0,0,0,())) d.1)
  .fail)
  (.ite (qdY (x.1.2.2.1,x.2))
  (qAL x.1 (qbx (x.1.2.2.1,x.2)) fun d =>
   (.ite (x.2.1==1)
   (qzW x.1 (qbx (x.1.2.2.1,x.2)) d)
   (qyx x.1 (qbx (x.1.2.2.1,x.2)) d.1)))
  .fail))
def qeq (x:qk qgp) (y:qk qgo):Bool:=(qeo x y).val.isSome
def qbJ (x:qk qgp) (y:qk qgo):Sh.den qdc×qk qdA:=(qeo x y).qP default
theorem qv6 (x:qk qgp) (y:qk qgo) (h:qeq x y=true):(qeo x y).val=some (qbJ x y):=PO.qb4 default h
def qcY:LoopN where
 M:=[2,3,4,6,9,10]
 T:=[11,12,13,14,15,16,17,18,19,20,21,22,23,24,25,26,27,28,29,30,31,32,33,34,35,36,37,38,39,40,41,42,43,44,45,46,47,48,49]
 D:=[2,4]
 ss:=[.ty (.int .i64),.box 0 0,.box 1 0,.box 2 0,.osl 0 qcK,.ty (.int .i64)]
 hs:=[quM 1,.ty qB,quM 2]
 es:=[.exit 0]
 σ:=(List (Ty.den qcK))×(Ty.den (.int .i64))×(Sh.den (quM 1))×(Sh.den (.ty qB))×(Sh.den (quM 2))
 x0:=fun x y=>(x.2.2.2.2.1,x.2.2.2.2.2,y.1,y.2.1,y.2.2)
 put:=fun x _ s=>((x.1,x.2.1,x.2.2.1,x.2.2.2.1,s.1,s.2.1),(s.2.2.1,s.2.2.2.1,s.2.2.2.2))
 fuel:=fun x _=>Int.toNat x.1+1
 turn:=fun x _ s =>
 (.ite (decide (qg s.1<x.1)&&!s.2.2.1.2.2.2.1)
  (.ite (s.2.2.2.1.2.1==qg s.1)
  (.ite (qeq (s.2.2.1,s.2.2.2.1) ())
   (.ite (Nat.ble ((List.length s.1+List.length [(qbJ (s.2.2.1,s.2.2.2.1) ()).1.2.1])*32) 140737488355328)
   (.ret (.on (s.1++[(qbJ (s.2.2.1,s.2.2.2.1) ()).1.2.1],bif s.2.2.1.2.2.1.2.1==s.2.2.1.1.2.1 then w64 (s.2.1+1) else s.2.1,(qbJ (s.2.2.1,s.2.2.2.1) ()).1.1,s.2.2.2.1,s.2.2.2.2)))
   .fail)
   .fail)
  (.ite (qeq (s.2.2.1,0,0,0,0,()) ())
   (.ite (Nat.ble ((List.length s.1+List.length [(qbJ (s.2.2.1,0,0,0,0,()) ()).1.2.1])*32) 140737488355328)
   (.ret (.on (s.1++[(qbJ (s.2.2.1,0,0,0,0,()) ()).1.2.1],bif s.2.2.1.2.2.1.2.1==s.2.2.1.1.2.1 then w64 (s.2.1+1) else s.2.1,(qbJ (s.2.2.1,0,0,0,0,()) ()).1.1,s.2.2.2.1,s.2.2.2.2)))
   .fail)
   .fail))
  (.ret (.out 0 (s.1,s.2.1,s.2.2.1,s.2.2.2.1,s.2.2.2.2))))
abbrev qfL:List Sh:=[quM 0,.ty qB,.ty (.int .i64)]
abbrev qfP:List Sh:=[]
abbrev qjn:Sh:=Sh.tup (Sh.pair (Sh.pair (Sh.ty (Ty.pair (Ty.int IntKind.i64) (Ty.pair (Ty.int IntKind.i64) (Ty.pair qee (Ty.pair (Ty.int IntKind.i64) Ty.unit))))) (Sh.pair (Sh.ty (Ty.pair qee (Ty.pair Ty.str (Ty.pair Ty.str Ty.unit)))) (Sh.pair (Sh.ty qC) (Sh.pair (Sh.ty Ty.bool) (Sh.pair (Sh.osl 0 qB) (Sh.ty Ty.unit)))))) (Sh.pair (Sh.osl 1 qB) (Sh.pair (Sh.ty (Ty.int IntKind.i64)) (Sh.ty Ty.unit))))
abbrev qlR:List Sh:=[]
def qec (x:qk qfL) (_:qk qfP):PO (Sh.den qjn×qk qlR) :=
 (.opt (LoopN.res qcY (x.2.2,(),(),(),[],0) (x.1,x.2.1,(0,0,(0,0,0,()),0,()),((0,0,0,()),[],[],()),([0,0,0,0,0,0,0,0,0,0,0,0,0,0,0],0,false,false,false,false,()),false,[],())) fun p0 =>
  (.ret ((p0.2.2.2.1,p0.2.1,p0.2.2.1,()),())))
def qcW (x:qk qfL) (y:qk qfP):Bool:=(qec x y).val.isSome
def qbB (x:qk qfL) (y:qk qfP):Sh.den qjn×qk qlR:=(qec x y).qP default
theorem qvr (x:qk qfL) (y:qk qfP) (h:qcW x y=true):(qec x y).val=some (qbB x y):=PO.qb4 default h
def qdi:LoopN where
 M:=[1,3,6,7,8]
 T:=[19,20,21,22,23,24,25,26,27,28,29,30,31,32,33]
 D:=[1,8]
 ss:=[.ty (.sl qcK),.box 0 0,.box 1 0,.box 2 0,.ty (.int .i64)]
 hs:=[.ty qtY,.ty qcc,.ty qcc]
 es:=[.exit 0]
 σ:=(Ty.den (.int .i64))×(Sh.den (.ty qtY))×(Sh.den (.ty qcc))×(Sh.den (.ty qcc))
 x0:=fun x y=>(x.2.2.2.2,y.1,y.2.1,y.2.2)
 put:=fun x _ s=>((x.1,x.2.1,x.2.2.1,x.2.2.2.1,s.1),(s.2.1,s.2.2.1,s.2.2.2))
 fuel:=fun x _=>List.length x.1+1
 turn:=fun x _ s =>
 (.ite (decide (s.1<qg x.1))
  (.ite (inRange s.1 (List.length x.1))
  (.ret (.on (w64 (s.1+1),s.2.1,s.2.2.1,(s.2.2.2.1,s.2.2.2.2.1,w64 (s.2.2.2.2.2.1+(List.getD x.1 (Int.toNat s.1) (Ty.dflt qcK)).2.2.2.1),s.2.2.2.2.2.2))))
  .fail)
  (.ret (.out 0 (s.1,s.2.1,s.2.2.1,s.2.2.2))))
abbrev qfV:List Ty:=[qtY,(.sl qcK),(.int .i64)]
abbrev qiy:Sh:=Sh.ty qcc
def quc (x:qc [qtY,(.sl qcK),(.int .i64)]):=LoopN.res qdi (x.2.1,(),(),(),0) (x.1,(false,0,0,0,0,0,[],[],[],()),x.1.2.2.2.1,qg x.2.1,0,x.2.2,0,0,[],[],[],())
def qdJ (x:qc qfV):PO (Sh.den qiy) :=
 (.opt (quc x) fun p0 =>
  (.ite (qda (p0.2.2.1.2.1,p0.2.2.1.2.2.2.2.1,537919488,4))
  (.ite (qda (p0.2.2.1.2.1,p0.2.2.1.2.2.2.2.1,538968064,4))
   (.ite (qdK (p0.2.2.1.2.1,p0.2.2.1.2.2.2.2.1,2))
   (.ite (qdK (p0.2.2.1.2.1,p0.2.2.1.2.2.2.2.1,3))
    (.ite (qdK (p0.2.2.1.2.1,p0.2.2.1.2.2.2.2.1,4))
    (.ret ((p0.2.2.2.2.1,p0.2.2.2.2.2.1,p0.2.2.2.2.2.2.1,p0.2.2.2.2.2.2.2.1,(qbs (p0.2.2.1.2.1,p0.2.2.1.2.2.2.2.1,537919488,4)).1,(qbs (p0.2.2.1.2.1,p0.2.2.1.2.2.2.2.1,538968064,4)).1,qcs (p0.2.2.1.2.1,p0.2.2.1.2.2.2.2.1,2),qcs (p0.2.2.1.2.1,p0.2.2.1.2.2.2.2.1,3),qcs (p0.2.2.1.2.1,p0.2.2.1.2.2.2.2.1,4),p0.2.2.2.2.2.2.2.2.2.2.2.2.2)))
    .fail)
    .fail)
   .fail)
   .fail)
  .fail))
def qeC (x:qc qfV):Bool:=(qdJ x).val.isSome
def qdL (x:qc qfV):Sh.den qiy:=(qdJ x).qP default
theorem quZ (x:qc qfV) (h:qeC x=true):(qdJ x).val=some (qdL x):=PO.qb4 default h
abbrev qh0:List Ty:=[.str,.str]
abbrev qk1:Sh:=Sh.tup (Sh.pair (Sh.pair (Sh.ty (Ty.pair (Ty.int IntKind.i64) (Ty.pair (Ty.int IntKind.i64) (Ty.pair qee (Ty.pair (Ty.int IntKind.i64) Ty.unit))))) (Sh.pair (Sh.ty (Ty.pair qee (Ty.pair Ty.str (Ty.pair Ty.str Ty.unit)))) (Sh.pair (Sh.ty qC) (Sh.pair (Sh.ty Ty.bool) (Sh.pair (Sh.osl 32 qB) (Sh.ty Ty.unit)))))) (Sh.pair (Sh.ty (Ty.int IntKind.i64)) (Sh.ty Ty.unit)))
def qf3 (x:qc qh0):PO (Sh.den qk1) :=
 (.ite (qd3 x.1)
  (.ite ((qbA x.1).2.1 != 0)
  (.ret ((((0,0,(0,0,0,()),0,()),((0,0,0,()),[],[],()),([0,0,0,0,0,0,0,0,0,0,0,0,0,0,0],0,false,false,false,false,()),false,[],()),(qbA x.1).2.1,())))
  (.ite (qeP ((qbA x.1).1.2.2.1,x.1,x.2,()) != 0)
   (.ret ((((0,0,(0,0,0,()),0,()),((0,0,0,()),[],[],()),([0,0,0,0,0,0,0,0,0,0,0,0,0,0,0],0,false,false,false,false,()),false,[],()),qeP ((qbA x.1).1.2.2.1,x.1,x.2,()),())))
   (.ret ((((qbA x.1).1,((qbA x.1).1.2.2.1,x.1,x.2,()),(List.set (List.set [0,0,0,0,0,0,0,0,0,0,0,0,0,0,0] 13 537133056) 14 4294967295,(qbA x.1).1.1,false,false,false,false,()),false,[],()),0,())))))
  .fail)
def qds (x:qc qh0):Bool:=(qf3 x).val.isSome
def qbi (x:qc qh0):Sh.den qk1:=(qf3 x).qP default
theorem qw8 (x:qc qh0) (h:qds x=true):(qf3 x).val=some (qbi x):=PO.qb4 default h
abbrev qij:List Ty:=[.str,.str,qB,(.int .i64)]
abbrev qkS:Sh:=Sh.tup (Sh.pair (Sh.ty qcc) (Sh.pair (Sh.ty (Ty.int IntKind.i64)) (Sh.ty Ty.unit)))
def qqz (x:qc [.str,.str,qB,(.int .i64)]):=qeC ((qbB ((qbi (x.1,x.2.1)).1,x.2.2) ()).1.1,(qbB ((qbi (x.1,x.2.1)).1,x.2.2) ()).1.2.1,(qbB ((qbi (x.1,x.2.1)).1,x.2.2) ()).1.2.2.1)
def qqM (x:qc [.str,.str,qB,(.int .i64)]):=qdL ((qbB ((qbi (x.1,x.2.1)).1,x.2.2) ()).1.1,(qbB ((qbi (x.1,x.2.1)).1,x.2.2) ()).1.2.1,(qbB ((qbi (x.1,x.2.1)).1,x.2.2) ()).1.2.2.1)
def qfT (x:qc qij):PO (Sh.den qkS) :=
 (.ite (qds (x.1,x.2.1))
  (.ite ((qbi (x.1,x.2.1)).2.1 != 0)
  (.ret (((false,0,0,0,0,0,[],[],[],()),(qbi (x.1,x.2.1)).2.1,())))
  (.ite (qbS x.2.2.1 != 0||(decide (x.2.2.2<0)||decide (x.2.2.2 > 67108864)))
   (.ret (((false,0,0,0,0,0,[],[],[],()),2,())))
   (.ite (qcW ((qbi (x.1,x.2.1)).1,x.2.2) ())
   (.ite (qqz x)
    (.ret ((qqM x,0,())))
    .fail)
   .fail)))
  .fail)
def qfM (x:qc qij):Bool:=(qfT x).val.isSome
def qcF (x:qc qij):Sh.den qkS:=(qfT x).qP default
theorem qwR (x:qc qij) (h:qfM x=true):(qfT x).val=some (qcF x):=PO.qb4 default h
abbrev qgG:List Ty:=[.str,.str,(.int .i64)]
abbrev qjb:Sh:=Sh.tup (Sh.pair (Sh.osl 32 qB) (Sh.pair (Sh.ty (Ty.int IntKind.i64)) (Sh.ty Ty.unit)))
def qpa (x:qc [.str,.str,(.int .i64)]):=qcW ((qbi (x.1,x.2.1)).1,(0,0,0,0,()),x.2.2) ()
def qpb (x:qc [.str,.str,(.int .i64)]):=qbB ((qbi (x.1,x.2.1)).1,(0,0,0,0,()),x.2.2) ()
def qeU (x:qc qgG):PO (Sh.den qjb) :=
 (.ite (qds (x.1,x.2.1))
  (.ite ((qbi (x.1,x.2.1)).2.1 != 0)
  (.ret (([],(qbi (x.1,x.2.1)).2.1,())))
  (.ite (decide (x.2.2<0)||decide (x.2.2 > 1048576))
   (.ret (([],2,())))
   (.ite (qpa x)
   (.ret (((qpb x).1.2.1,0,())))
   .fail)))
  .fail)
def qe1 (x:qc qgG):Bool:=(qeU x).val.isSome
def qbL (x:qc qgG):Sh.den qjb:=(qeU x).qP default
theorem qve (x:qc qgG) (h:qe1 x=true):(qeU x).val=some (qbL x):=PO.qb4 default h
end Go.Av
end
section
namespace Go.Av
open Go
abbrev qge:List Ty:=[.str,(.int .i64)]
abbrev qjq:Sh:=Sh.ty Ty.bool
def qgK (x:qc qge):PO (Sh.den qjq) :=
 (.ite (qd3 x.1)
  (.ret (decide (qg x.1≤400)&&(decide (x.2≤80)&&((qbA x.1).2.1 != 0||decide (w64 ((qbA x.1).1.2.2.1.2.1+(qbA x.1).1.2.2.1.2.2.1)≤400)))))
  .fail)
def qd9 (x:qc qge):Bool:=(qgK x).val.isSome
def qcT (x:qc qge):Sh.den qjq:=(qgK x).qP default
theorem qvb (x:qc qge) (h:qd9 x=true):(qgK x).val=some (qcT x):=PO.qb4 default h
def qdm:LoopN where
 M:=[0,1,4,5]
 T:=[11,12,13,14,15,16,17,18,19,20,21,22,23,24,25]
 D:=[0,1,5]
 ss:=[.ty (.sl qcK),.ty (.sl qcK),.ty .bool,.ty (.int .i64)]
 hs:=[]
 es:=[.exit 0,.ret]
 σ:=(Ty.den .bool)×(Ty.den (.int .i64))
 x0:=fun x _=>(x.2.2.1,x.2.2.2)
 put:=fun x _ s=>((x.1,x.2.1,s.1,s.2),())
 fuel:=fun x _=>List.length x.1+1
 turn:=fun x _ s =>
 (.ite (decide (s.2<qg x.1))
  (.ite (inRange s.2 (List.length x.1)&&inRange s.2 (List.length x.2.1))
  (.ite (!Ty.eqb qB (List.getD x.1 (Int.toNat s.2) (Ty.dflt qcK)) (List.getD x.2.1 (Int.toNat s.2) (Ty.dflt qcK)))
   (.ret (.out 1 (false,s.2)))
   (.ret (.on (s.1,w64 (s.2+1)))))
  .fail)
  (.ret (.out 0 (s.1,s.2))))
abbrev qcQ:List Ty:=[(.sl qcK),(.sl qcK)]
abbrev qdH:Sh:=Sh.ty Ty.bool
def qcn (x:qc qcQ):PO (Sh.den qdH) :=
 (.ite (qg x.1 != qg x.2)
  (.ret (false))
  (.opt (LoopN.res qdm (x.1,x.2,false,0) ()) fun p0 =>
  (.ite (way p0.1)
   (.ret (true))
   (.ret (p0.2.1)))))
def qbZ (x:qc qcQ):Bool:=(qcn x).val.isSome
def qbt (x:qc qcQ):Sh.den qdH:=(qcn x).qP default
theorem qoI (x:qc qcQ) (h:qbZ x=true):(qcn x).val=some (qbt x):=PO.qb4 default h
abbrev qb6:List Ty:=[.str,.str,qB,(.int .i64)]
abbrev qsK:Sh:=Sh.ty Ty.bool
def qiV (x:qc qb6):PO (Sh.den qsK) :=
 (.ite (qd9 (x.1,x.2.2.2))
  (.ite (!qcT (x.1,x.2.2.2))
  (.ret (true))
  (.ite (qfM x)
   (.ite (bif Ty.eqb qcc (qc3 x).1 (qcF x).1 then bif (qc3 x).2.1==(qcF x).2.1 then q6 x.2.2.1==qbS x.2.2.1||true else true else true)
   (.ret (Ty.eqb qcc (qc3 x).1 (qcF x).1&&((qc3 x).2.1==(qcF x).2.1&&(q6 x.2.2.1==qbS x.2.2.1&&true))))
   .fail)
   .fail))
  .fail)
abbrev qbU:List Ty:=[.str,.str,(.int .i64)]
abbrev qrw:Sh:=Sh.ty Ty.bool
def qhC (x:qc qbU):PO (Sh.den qrw) :=
 (.ite (qd9 (x.1,x.2.2))
  (.ite (!qcT (x.1,x.2.2))
  (.ret (true))
  (.ite (qe1 x)
   (.ite (qbZ ((qfk x).1,(qbL x).1)&&bif qbt ((qfk x).1,(qbL x).1) then(qfk x).2.1==(qbL x).2.1||true else true)
   (.ret (qbt ((qfk x).1,(qbL x).1)&&((qfk x).2.1==(qbL x).2.1&&true)))
   .fail)
   .fail))
  .fail)
end Go.Av
end
section
namespace Go.Proofs.YtamnhodjidmlcaaGreat
open Go Go.Av Go.Proofs Go.RowKit
noncomputable def qwa:Code:=match Tryz.f68.body with
 |some (.seq _ r)=>r
 |_=>.skip
theorem qOL (w:World):(Instr.typeAssert .nilIface 20 139 true).run Tryz.prog w=.ok (.tuple #[.agg #[.int .i64 0],.bool false]) w:=by
 kernel_rfl
theorem qNP (v:Value) (w:World):(Instr.typeAssert (.iface 139 v) 20 139 true).run Tryz.prog w=.ok (.tuple #[v,.bool true]) w:=by
 kernel_rfl
theorem qLW (cap:Array Value) (w:World):(invoke (.fn (.func 68) cap) #[]).run Tryz.prog w=.ok (.enter 68 cap) w:=by
 have h1 : (Tryz.f68.name == "runtime.NumGoroutine") = false := by kernel_rfl
 have h2:Tryz.f68.body.isNone=false:=by kernel_rfl
 have h3:Tryz.prog.funcs[68]?=some Tryz.f68:=Tryz.func68
 simp only[invoke,callFunc]
 rw[show(#[]:Array Value)++cap=cap by simp]
 simp only[Sem.run_bind,run_program,Result.andThen_ok,h3,h1,h2,Bool.false_eq_true,if_false]
 rfl
set_option maxRecDepth 100000 in
set_option maxHeartbeats 2000000 in
theorem qF1:Catches Tryz.prog 68 139 Tryz.f68 qwa where
 enter:=qLW
 idle:=fun p0 p1 p2 w=>by
  refine callsD_of_wpS (c:=.seq (.region _ _ false) qwa) Tryz.func68 rfl fun c₀ cs hu=>?_
  simp only[Tryz.ntmps68,List.size_toArray,List.length_cons,List.length_nil,Nat.reduceAdd,Nat.reduceSub,Array.replicate_succ,Array.replicate_zero,List.push_toArray,List.append_toArray,List.nil_append,List.cons_append]
  apply wpS_seq
  apply wpS_region
  simp[wpOpsS,go_sem,recoverD,hu,Exit.thenS,qOL]
  refine wpS_of_wp ?_
  refine Code.wp_mono (Q:=fun e a' w'=>e=.normal∧a'.defers=[]∧w'=w.alloc (.cells #[.int .i64 0] 139)) (fun e a' w' hq=>?_) ?_
  ·obtain⟨rfl,hd,rfl⟩:=hq
   exact⟨hd,.returning,by rw[←hu],_,results_none rfl _ _ _,⟨_,rfl⟩,rfl,rfl⟩
  ·show Code.wp _ (.seq (.region _ _ false) (.cond (.tmp 10) _ .skip)) _ _ _
   refine wp_seq (wp_region ?_)
   simp[wpOps,go_sem,Exit.then]
   refine .inl (wp_cond (t:=false) ?_ ?_)
   ·simp[Act.eval]
   simp only[Bool.false_eq_true,if_false]
   exact wp_skip ⟨rfl,rfl,rfl⟩
 caught:=fun p0 p1 p2 m w Rr h=>by
  refine callsD_of_wpS (c:=.seq (.region _ _ false) qwa) Tryz.func68 rfl fun c₀ cs hu=>?_
  simp only[Tryz.ntmps68,List.size_toArray,List.length_cons,List.length_nil,Nat.reduceAdd,Nat.reduceSub,Array.replicate_succ,Array.replicate_zero,List.push_toArray,List.append_toArray,List.nil_append,List.cons_append]
  apply wpS_seq
  apply wpS_region
  simp[wpOpsS,go_sem,recoverD,hu,Exit.thenS,qNP]
  refine wpS_of_wp (Code.wp_mono (fun e a' w' hq=>?_) (h _ rfl rfl rfl rfl rfl rfl))
  obtain⟨he,hd,hr⟩:=hq
  rcases he with rfl |rfl
  ·exact⟨hd,_,rfl,_,results_none rfl _ _ _,⟨_,rfl⟩,rfl,hr⟩
  ·exact⟨hd,_,rfl,_,results_none rfl _ _ _,⟨_,rfl⟩,rfl,hr⟩
theorem qyl {C:Ctx} (hC:Av.Good C) (hP:C.P=Tryz.prog) (unroll d:Nat):qsi C.P 46 (qAC C qes unroll d 46 68 139) :=
 qMk hC (gn:=Tryz.f68) (rest:=qwa) (by rw[hP];exact Tryz.func68) rfl (by rw[hP];exact qF1)
end Go.Proofs.YtamnhodjidmlcaaGreat
end
section
namespace Go.Proofs.YtamnhodjidmlcaaGreat
open Go Go.RowKit Go.Shelf Go.Av Go.Proofs
attribute [local go_sem] Oper.semAt_some
abbrev qTP (i:qB.den):Value:=.agg #[.int .i64 i.1,.int .i64 i.2.1,.int .i64 i.2.2.1,.int .i64 i.2.2.2.1]
def qv3 (i:qB.den):List Value:=[.int .i64 i.1,.int .i64 i.2.1,.int .i64 i.2.2.1,.int .i64 i.2.2.2.1]
theorem qQ6:(Tryz.prog.info? 23).map (fun i=>(i.zero,i.size,i.bytes))=some (some (.agg #[.int .i64 0,.int .i64 0,.int .i64 0,.int .i64 0]),4,32):=by kernel_rfl
set_option maxRecDepth 100000 in
set_option maxHeartbeats 8000000 in
theorem qSw (k:Int) (bk l:Nat) (J:List qB.den→World→Prop)
  (hbox:∀d W,J d W→Boxed W bk 3 (.int .i64 k))
  (hY:∀d W x,J d W→d.length<485→YieldAt Fence.wide 2 Tryz.prog l #[qTP x] W fun e W'=>e=.returned (.bool true)∧J (d++[x]) W')
  (W:World) (h0:J [] W) :
  CallsIn Fence.wide 3 Tryz.prog 82 #[.func (.yield l) #[] #[],.pointer (some ⟨bk,0,none⟩)] W fun e W'=>(∃v,e=.returned v)∧J (atL k) W':=by
 refine callsIn_of_wp Tryz.func82 rfl trivial ?_ rfl
 simp only[Tryz.ntmps82,List.size_toArray,List.length_cons,List.length_nil,Nat.reduceAdd,Nat.reduceSub,Array.replicate_succ,Array.replicate_zero,List.push_toArray,List.append_toArray,List.nil_append,List.cons_append]
 have hc:=(hbox _ _ h0).cell
 obtain⟨fn,tmps,assign,body,hy,hR⟩:=hY [] W (qyu k) h0 (by decide)
 simp only[qyu] at hy
 gi_wp2
 refine hR.mono ?_
 rintro e W1 ⟨rfl,hJ1⟩
 gi_wp2
 gi_loopw [11] (fun p wr=>∃r:Nat,p=.int .i64 r∧r≤15∧J ([qyu k]++qst k r) wr) (fun p _=>15-(intOf p).toNat)
 case atStart=>exact⟨0,rfl,by omega,hJ1⟩
 case round =>
  obtain⟨r,rfl,hr,hJr⟩:=hrel
  by_cases hlt:r<15
  ·have hri:(r:Int)<15:=by omega
   gi_wp2
   gi_loopw [14] (fun p wr=>∃b:Nat,p=.int .i64 b∧b≤32∧J ([qyu k]++qst k r++qoQ k r b) wr) (fun p _=>32-(intOf p).toNat)
   case atStart=>exact⟨0,rfl,by omega,by simpa [qoQ] using hJr⟩
   case round =>
    obtain⟨b,rfl,hb,hJb⟩:=hrel
    have hcb:=(hbox _ _ hJb).cell
    by_cases hbt:b<32
    ·have hbi:(b:Int)<32:=by omega
     obtain⟨fn,tmps,assign,body,hy,hR⟩:=hY _ wr (qD8 k r b) hJb (by rw[List.length_append,List.length_append,qvX,qyL,List.length_singleton];omega)
     simp only[qD8] at hy
     gi_wp2
     refine hR.mono ?_
     rintro e W2 ⟨rfl,hJ2⟩
     gi_wp2
     refine⟨⟨b+1,by simp,by omega,by rw[qIA,←List.append_assoc];exact hJ2⟩,by simp[intOf];omega⟩
    ·have hbe:b=32:=by omega
     subst hbe
     gi_wp2
     refine⟨⟨r+1,by simp,by omega,by rw[qyW,←List.append_assoc];exact hJb⟩,by simp[intOf];omega⟩
  ·have hre:r=15:=by omega
   subst hre
   rw[show((15:Nat):Int)=(15:Int) from rfl]
   gi_wp2
   gi_loopw [26] (fun p wr=>∃b:Nat,p=.int .i64 b∧b≤4∧J ([qyu k]++qst k 15++qp3 k b) wr) (fun p _=>4-(intOf p).toNat)
   case atStart=>exact⟨0,rfl,by omega,by simpa [qp3] using hJr⟩
   case round =>
    obtain⟨b,rfl,hb,hJb⟩:=hrel
    have hcb:=(hbox _ _ hJb).cell
    by_cases hbt:b<4
    ·have hbi:(b:Int)<4:=by omega
     obtain⟨fn,tmps,assign,body,hy,hR⟩:=hY _ wr (qD9 k b) hJb (by rw[List.length_append,List.length_append,qvX,qIM,List.length_singleton];omega)
     simp only[qD9] at hy
     gi_wp2
     refine hR.mono ?_
     rintro e W2 ⟨rfl,hJ2⟩
     gi_wp2
     go_roundw
     case rel=>exact⟨b+1,by simp,by omega,by rw[qFm,←List.append_assoc];exact hJ2⟩
     case measure=>simp[intOf];omega
    ·have hbe:b=4:=by omega
     subst hbe
     gi_wp2
     go_end0
     exact⟨⟨_,rfl⟩,hJb⟩
theorem qMy (w:World) (cs:Array Value) (t:TypeId) (l:List Value) (hl:l=cs.toList):∀j u,l[j]?=some u→(w.alloc (.cells cs t)).cell? ((⟨w.heap.size,0,none⟩:Addr).add j)=some u:=by
 intro j u hj
 subst hl
 rw[add_eq rfl]
 simp only[World.cell?,World.alloc_heap_new]
 simpa using hj
structure qvZ (w:World) (D:Nat) (rc:LoopState→Option Code→Go.Loop) (st:LoopState) (pe:Option Code) (k:Int) (d:List qB.den) (W:World):Prop where
 b4:∃v,Boxed W w.heap.size 44 v∧W.ownsRow w.heap.size 23 4 v d.length (d.flatMap qv3)
 bk:Boxed W (w.heap.size+1) 3 (.int .i64 k)
 below:Below w.heap.size w W
 frz:∀a,W.frozen? a=w.frozen? a
 dfr:W.heap[D]?=some (.deferred (some []))
 lp:W.heap[D+1]?=some (.loop (rc st pe))
theorem qIJ {W W':World} (h:Below W.heap.size W W'):W.grownBy W' none:=⟨h.os,h.tape,h.output,h.size,fun k hk _=>h.block k hk⟩
theorem qug {W:World} {k:Nat} {o:Obj} (h:W.heap[k]?=some o):k<W.heap.size:=(Array.getElem?_eq_some_iff.1 h).1
theorem qvZ.below' {w:World} {D:Nat} {rc:LoopState→Option Code→Go.Loop} {st:LoopState} {pe:Option Code} {k:Int} {d:List qB.den} {W W':World} (h:qvZ w D rc st pe k d W) (hb:Below W.heap.size W W') (hz:∀a,W'.frozen? a=W.frozen? a):qvZ w D rc st pe k d W':=by
 have hg:=qIJ hb
 obtain⟨v,h4,hr⟩:=h.b4
 exact⟨⟨v,h4.kept hg (by simp),hr.kept hg (by cases v.ownBlock<;>simp)⟩,h.bk.kept hg (by simp),h.below.trans (hb.mono h.below.size),fun a=>(hz a).trans (h.frz a),(hb.block _ (qug h.dfr)).trans h.dfr,(hb.block _ (qug h.lp)).trans h.lp⟩
theorem qvZ.turn {w:World} {D:Nat} {rc:LoopState→Option Code→Go.Loop} {st st':LoopState} {pe pe':Option Code} {k:Int} {d:List qB.den} {W:World} (h:qvZ w D rc st pe k d W) (hD:w.heap.size≤D):qvZ w D rc st' pe' k d (W.putObj (D+1) (.loop (rc st' pe'))):=by
 have hg:=grownBy_putObj' W (D+1) (.loop (rc st' pe'))
 obtain⟨v,h4,hr⟩:=h.b4
 have hne:∀{k:Nat} {t:TypeId} {v:Value},Boxed W k t v→some k≠some (D+1):=fun hk e=>by
  cases e
  have hk':W.heap[D+1]?=_:=hk
  rw[h.lp] at hk'
  cases hk'
 exact⟨⟨v,h4.kept hg (hne h4),ownsRow_putObj hr _ h.lp rfl⟩,h.bk.kept hg (hne h.bk),
  h.below.trans ⟨hg.os,hg.tape,hg.output,hg.size,fun k hk=>hg.block k (Nat.lt_of_lt_of_le hk h.below.size) (by simp;omega)⟩,fun a=>(qzZ _ _ _ _ h.lp rfl rfl a).trans (h.frz a),(World.putObj_heap_other (by omega)).trans h.dfr,World.putObj_heap_same (qug h.lp)⟩
set_option maxRecDepth 100000 in
set_option maxHeartbeats 4000000 in
theorem qSS (k:Int) (w:World) :
  CallsIn Fence.wide 3 Tryz.prog 54 #[.int .i64 k] w fun e w'=>e=.returned (.func (.func 82) #[] #[.pointer (some ⟨w.heap.size,0,none⟩)])∧w'=w.alloc (.cells #[.int .i64 k] 3):=by
 refine callsIn_of_wp Tryz.func54 rfl trivial ?_ rfl
 simp only[Tryz.ntmps54,List.size_toArray,List.length_cons,List.length_nil,Nat.reduceAdd,Nat.reduceSub,Array.replicate_succ,Array.replicate_zero,List.push_toArray,List.append_toArray,List.nil_append,List.cons_append]
 gi_wp2
 go_ret
 exact⟨rfl,rfl⟩
set_option maxRecDepth 100000 in
set_option maxHeartbeats 8000000 in
theorem qTc (k:Int) (w:World) :
  CallsIn Fence.wide 4 Tryz.prog 30 #[.int .i64 k] w fun e W'=>∃v,e=.returned v∧(Below w.heap.size w W'∧∀a,W'.frozen? a=w.frozen? a) ∧
   W'.ownsRow w.heap.size 23 4 v (bif decide (k<0) then[] else atL k).length ((bif decide (k<0) then[] else atL k).flatMap qv3):=by
 obtain⟨i0,hi,hz0,hz1,hz2⟩:=info_parts qQ6
 refine callsIn_of_wp_marks Tryz.func30 rfl trivial ?_ rfl
 simp only[Tryz.ntmps30,List.size_toArray,List.length_cons,List.length_nil,Nat.reduceAdd,Nat.reduceSub,Array.replicate_succ,Array.replicate_zero,List.push_toArray,List.append_toArray,List.nil_append,List.cons_append]
 gi_wp2_with (refine⟨trivial,?_⟩;gi_at_call 54;refine(qSS k _).mono ?_;rintro e w' ⟨rfl,rfl⟩)
 ·have hd:decide (k<0)=true:=decide_eq_true (by assumption)
  rw[hd]
  refine⟨_,results_tmp rfl _ _ _,_,rfl,⟨(Below.refl _ w).alloc (Nat.le_refl _) _,qnL _ _ rfl⟩,World.ownsRow_nil _ _ _ _⟩
 ·have hk:0≤k:=by assumption
  have hd:decide (k<0)=false:=decide_eq_false (by omega)
  have b4:=(Boxed.new w 44 (.slice none 0 0)).alloc (.cells #[.int .i64 k] 3)
  have bk:=Boxed.new (w.alloc (.cells #[.slice none 0 0] 44)) 3 (.int .i64 k)
  simp only[World.size_alloc] at b4 bk
  have hB0:Below w.heap.size w ((w.alloc (.cells #[.slice none 0 0] 44)).alloc (.cells #[.int .i64 k] 3)):=((Below.refl _ w).alloc (Nat.le_refl _) _).alloc (by simp) _
  have hF0:∀a,((w.alloc (.cells #[.slice none 0 0] 44)).alloc (.cells #[.int .i64 k] 3)).frozen? a=w.frozen? a:=fun a=>by rw[qnL _ _ rfl,qnL _ _ rfl]
  have hsz:((w.alloc (.cells #[.slice none 0 0] 44)).alloc (.cells #[.int .i64 k] 3)).heap.size=w.heap.size+2:=by simp
  generalize ((w.alloc (.cells #[.slice none 0 0] 44)).alloc (.cells #[.int .i64 k] 3))=W0 at b4 bk hB0 hF0 hsz ⊢
  refine qLA rfl (by decide) (gf:=82) (lb:=#[.pointer (some ⟨w.heap.size+1,0,none⟩)]) rfl trivial (enters_of Tryz.func82 (by kernel_rfl) rfl) (fun fn _=>?_)
  generalize hrc:qoL fn _ _ _ _ W0.heap.size=rc
  have hw1:((W0.alloc (.deferred (some []))).alloc (.loop (rc .ready none))).heap[W0.heap.size+1]?=some (.loop (rc .ready none)):=by
   have:=World.alloc_heap_new (W0.alloc (.deferred (some []))) (.loop (rc .ready none))
   rwa [World.size_alloc] at this
  have hw2:((W0.alloc (.deferred (some []))).alloc (.loop (rc .ready none))).heap[W0.heap.size]?=some (.deferred (some [])) :=
   (Below.heap_alloc _ _ _ (by simp)).trans (World.alloc_heap_new W0 _)
  have hm0:qvZ w W0.heap.size rc .ready none k [] ((W0.alloc (.deferred (some []))).alloc (.loop (rc .ready none))) :=
   ⟨⟨_,(b4.alloc _).alloc _,World.ownsRow_nil _ _ _ _⟩,(bk.alloc _).alloc _,(hB0.alloc (by omega) _).alloc (by simp;omega) _,fun a=>((qnL _ _ rfl a).trans (qnL _ _ rfl a)).trans (hF0 a),hw2,hw1⟩
  have hD:w.heap.size≤W0.heap.size:=by omega
  clear hw1 hw2
  refine(qSw k (w.heap.size+1) (W0.heap.size+1) (fun d W=>qvZ w W0.heap.size rc .ready none k d W) (fun d W h=>h.bk) ?round _ hm0).mono ?_
  case round =>
   intro d W x h hlt
   refine qOZ hrc trivial h.lp rfl ?_
   clear hm0 hF0
   rw[hsz] at h ⊢
   gi_wp2
   have h1:=h.below' ((Below.refl _ W).alloc (Nat.le_refl _) (.cells #[.int .i64 x.1,.int .i64 x.2.1,.int .i64 x.2.2.1,.int .i64 x.2.2.2.1] 23)) (qnL _ _ rfl)
   refine⟨h1.lp,?_⟩
   have h2:=h1.turn (st':=.busy) (pe':=none) (by omega)
   have hx:((W.alloc (.cells #[.int .i64 x.1,.int .i64 x.2.1,.int .i64 x.2.2.1,.int .i64 x.2.2.2.1] 23)).putObj (w.heap.size+2+1) (.loop (rc .busy none))).heap[W.heap.size]?=some (.cells #[.int .i64 x.1,.int .i64 x.2.1,.int .i64 x.2.2.1,.int .i64 x.2.2.2.1] 23) :=
    (World.putObj_heap_other (by have:=qug h.lp;omega)).trans (World.alloc_heap_new W _)
   have hxb:w.heap.size≤W.heap.size:=h.below.size
   generalize ((W.alloc (.cells #[.int .i64 x.1,.int .i64 x.2.1,.int .i64 x.2.2.1,.int .i64 x.2.2.2.1] 23)).putObj (w.heap.size+2+1) (.loop (rc .busy none)))=W2 at h2 hx ⊢
   generalize W.heap.size=bx at hx hxb ⊢
   clear h1 h hrc
   obtain⟨⟨v,b4',hrow⟩,bk',hB',hZ0,hD',hL'⟩:=h2
   have hZ':Hid (∀a,W2.frozen? a=w.frozen? a):=hZ0
   clear hZ0
   have c4:=b4'.cell
   have cx:∀k,k<4→W2.cell? ⟨bx,k,none⟩=some ((qv3 x).getD k undef):=fun k hk=>by
    simp only[World.cell?,hx]
    match k,hk with
    |0,_=>rfl
    |1,_=>rfl
    |2,_=>rfl
    |3,_=>rfl
   have cx0:=cx 0 (by decide)
   have cx1:=cx 1 (by decide)
   have cx2:=cx 2 (by decide)
   have cx3:=cx 3 (by decide)
   simp only[qv3,List.getD_cons_zero,List.getD_cons_succ] at cx0 cx1 cx2 cx3
   clear cx
   have hml:d.length+1≤maxLen:=by unfold maxLen;omega
   have hmb:(d.length+1)*32≤140737488355328:=by omega
   gi_wp2_with (gi_at_builtin;refine qw2 _ rfl _ _ 44 rfl w.heap.size 23 i0 (.agg #[.int .i64 0,.int .i64 0,.int .i64 0,.int .i64 0]) 4 32 Tryz.underlying44 hi hz0 hz1 hz2 rfl (by decide) _ _ _ rfl (hrow.alloc _) ⟨W2.heap.size,0,none⟩ 1 1 (by decide) (qv3 x) rfl rfl (qMy _ _ _ _ rfl) (by simp[qv3,Value.oneCell']) hml hmb (by have:=hB'.size;simp;omega) ?_;intro v' w1 hown' hgrow hfz0;have hfz:=show Hid (∀x,w1.frozen? x=_) from hfz0;clear hfz0;obtain⟨g',cap',rfl⟩:=ownsRow_succ hown';obtain⟨hv1,hv2,hr2,hk2,hb2⟩:=b4'.appended (by decide) hrow hB'.size (by omega) hown' hgrow;have hc1:=hv1.cell;have hf1:=hv1.frozen)
   have nk:=bk'.not_row (by decide) hrow
   have hgs:=grownBy_setCell' w1 w.heap.size (.slice (some ⟨g',0,none⟩) (d.length+1) cap')
   have hm:qvZ w (w.heap.size+2) rc .busy none k (d++[x]) (w1.setCell ⟨w.heap.size,0,none⟩ (.slice (some ⟨g',0,none⟩) (d.length+1) cap')) :=
    ⟨⟨_,hv2,by simpa [List.flatMap_append] using hr2⟩,((bk'.alloc _).kept hgrow nk).kept hgs (by simp),hB'.trans hb2,fun a=>((World.frozen?_setCell ..).trans ((hfz.out a).trans (qnL _ _ rfl a))).trans (hZ'.out a),hk2.same _ _ hD' rfl,hk2.same _ _ hL' rfl⟩
   exact⟨hm.lp,rfl,hm.turn (by omega)⟩
  ·rintro e W1 ⟨hv,hm⟩
   refine⟨hv,.inl ⟨hm.lp,?_⟩⟩
   have h2:=hm.turn (st':=.exhausted) (pe':=none) (by omega)
   clear hm0
   generalize (W1.putObj (W0.heap.size+1) (.loop (rc .exhausted none)))=W2 at h2 ⊢
   obtain⟨v,b4',hrow⟩:=h2.b4
   have c4:=b4'.cell
   have hd3:=h2.dfr
   rw[hsz] at hd3 ⊢
   gi_wp2
   refine⟨by simp,.inl ⟨_,_,rfl,run_takeDeferred hd3,?_⟩⟩
   have hgp:=grownBy_putObj' W2 (w.heap.size+2) (.deferred none)
   refine⟨_,results_tmp rfl _ _ _,v,rfl,⟨h2.below.trans ⟨hgp.os,hgp.tape,hgp.output,hgp.size,fun k hk=>hgp.block k (Nat.lt_of_lt_of_le hk h2.below.size) (by simp;omega)⟩,fun a=>(qzZ _ _ _ _ hd3 rfl rfl a).trans (h2.frz a)⟩,?_⟩
   exact ownsRow_putObj hrow _ hd3 rfl
theorem qKe {w:World} {K:Kinds}:∀l:List qB.den,RL (RT w K qB) l (l.flatMap qv3)
 |[]=>rfl
 |x::l=>⟨qv3 x,l.flatMap qv3,by simp,⟨[.int .i64 x.1],_,rfl,rfl,[.int .i64 x.2.1],_,rfl,rfl,[.int .i64 x.2.2.1],_,rfl,rfl,[.int .i64 x.2.2.2.1],[],rfl,rfl,rfl⟩,qKe l⟩
theorem qOz:qoz Tryz.prog 30 (qo qkr qwG qsJ qwD):=by
 intro args v hv w K vs hvs hfix
 unfold qo at hv
 cases hx:quf qkr args with
 |none=>rw[hx] at hv;cases hv
 |some k =>
  rw[hx] at hv
  simp only[Option.map_some,Option.some.injEq,Prod.mk.injEq] at hv
  obtain⟨hg,rfl⟩:=hv
  have hva:=qxg qkr args k vs hx hvs
  match vs,hva with
  |[u],hva =>
   have hu:=RV.int hva.1
   subst hu
   refine(callsIn_wide.1 (qTc k w)).mono ?_
   rintro e W' ⟨r,rfl,⟨hB,_⟩,hrow⟩
   have hK:∀b,(if b<w.heap.size then K b else Kind.old).fixed=true:=fun b=>by
    by_cases h:b<w.heap.size
    ·rw[if_pos h];exact hfix b h
    ·rw[if_neg h];rfl
   refine⟨_,fun b=>if b<w.heap.size then K b else .old,rfl,?_,?_,?_⟩
   ·exact{
     os:=hB.os
     tape:=hB.tape
     output:=hB.output
     size:=hB.size
     fix:=fun b hb _=>⟨if_pos hb,hB.block b hb⟩
     stab:=fun b o hb hs=>⟨by unfold qdD;simp only[if_pos hb];exact hs,World.cell?_of_block (hB.block b hb)⟩
     box:=fun b id hb hk=>by simp only[if_pos hb];exact hk
     bsz:=fun b id n hb hk hn=>(by have:=hfix b hb;rw[hk] at this;cases this)}
   ·intro b id _ hk
    have h1:=hK b
    simp only at hk
    rw[hk] at h1
    cases h1
   ·have hcc:∀A len cap,r=.slice A len cap→∀a,A=some a→∃cc,RL (RT W' (fun b=>if b<w.heap.size then K b else .old) qB) (bif decide (k<0) then[] else atL k) cc∧At W' (fun b=>if b<w.heap.size then K b else .old) a cc:=by
     intro A len cap hr a ha
     subst hr ha
     rcases hrow.2 with⟨e,_⟩ |⟨g,cap',cur,e,hg,hh,_,_,_,hpre⟩
     ·cases e
     ·injection e with e1 e2 e3
      injection e1 with e1
      subst e1
      refine⟨_,qKe _,fun j v hj=>⟨rfl,?_,?_⟩⟩
      ·rw[←hpre] at hj
       simp only[World.cell?,hh,Option.isSome_none,Bool.false_eq_true,if_false,Nat.zero_add]
       rw[List.getElem?_take] at hj
       split at hj
       ·simpa using hj
       ·cases hj
      ·unfold qdD
       simp only[if_neg (Nat.not_lt.2 hg)]
       exact trivial
    rcases hrow.2 with⟨e,h0⟩ |⟨g,cap',cur,e,_,_,hle,_⟩
    ·subst e
     exact⟨⟨none,0,0,rfl,h0.symm,Nat.le_refl _,fun _=>rfl,fun a ha=>by cases ha⟩,(fun e=>(by cases e)),(fun _ c e=>(by cases e))⟩
    ·subst e
     exact⟨⟨_,_,cap',rfl,rfl,hle,(fun e=>(by cases e)),hcc _ _ _ rfl⟩,(fun e=>(by cases e)),(fun _ c e=>(by cases e))⟩
end Go.Proofs.YtamnhodjidmlcaaGreat
end
section
namespace Go.Proofs.YtamnhodjidmlcaaGreat
open Go Go.Av Go.Proofs
noncomputable def qNB:Ctx:=qLM Tryz.prog [147,52,89,23,73,27,152,65,46,132,71]
theorem qI9:Av.Good qNB:=qND (by kernel_rfl) (by kernel_rfl) (by kernel_rfl)
noncomputable def qMn:Ctx:=qNB.addPlain 147 (qo qlH qrM qou qcI)
theorem qIB:Av.Good qMn:=qI9.fnP qou qfN qrM qcI 2 8 (by kernel_rfl) (fun x=>by kernel_rfl) qAg
noncomputable def qNc:Ctx:=qMn.addPlain 148 (qo qmW qsL qpz qc2)
theorem qID:Av.Good qNc:=qIB.fnP qpz qg5 qsL qc2 2 8 (by kernel_rfl) (fun x=>by kernel_rfl) qA8
noncomputable def qME:Ctx:=qNc.addPlain 146 (qo qlK qrO qoT qbo)
theorem qJl:Av.Good qME:=qID.fnP qoT qcL qrO qbo 2 8 (by kernel_rfl) (fun x=>by kernel_rfl) qz0
noncomputable def qNO:Ctx:=qME.addPlain 167 (qo qmR qsB qpo qg2)
theorem qI1:Av.Good qNO:=qJl.fnP qpo qiU qsB qg2 3 8 (by kernel_rfl) (fun x=>by kernel_rfl) qBf
noncomputable def qNy:Ctx:=qNO.addPlain 145 (qo qlZ qrD qoV qhA)
theorem qI5:Av.Good qNy:=qI1.fnP qoV qhH qrD qhA 3 8 (by kernel_rfl) (fun x=>by kernel_rfl) qAz
noncomputable def qNk:Ctx:=qNy.addPlain 113 (qo qmK qsI qpH qj)
theorem qIV:Av.Good qNk:=qI5.fnP qpH qcA qsI qj 3 8 (by kernel_rfl) (fun x=>by kernel_rfl) qA1
noncomputable def qMl:Ctx:=qNk.addPlain 158 (qo qhq qnl qkb qfp)
theorem qIE:Av.Good qMl:=qIV.fnP qkb qfr qnl qfp 2 8 (by kernel_rfl) (fun x=>by kernel_rfl) qwo
noncomputable def qNs:Ctx:=qMl.addPlain 123 (qo qhu qni qj4 qb)
theorem qIS:Av.Good qNs:=qIE.fnP qj4 qfo qni qb 2 8 (by kernel_rfl) (fun x=>by kernel_rfl) qwA
noncomputable def qNi:Ctx:=qNs.addLoop 159 2 qgB.toT.toLoop
theorem qI3:Av.Good qNi:=qIS.loopN qgB 2 8 (by kernel_rfl) (fun _ _=>rfl) (fun x y s m K=>by kernel_rfl) (fun x y s s' K e=>by kernel_rfl)
noncomputable def qJK:Ctx:=qNi.addPlain 159 (qo qhZ qif qk5 qh5)
theorem qFK:Av.Good qJK:=qI3.fnP qk5 qnN qif qh5 2 8 (by kernel_rfl) (fun x=>by kernel_rfl) qwU
noncomputable def qK5:Ctx:=qJK.addPlain 128 (qo qin qdt qkN qcp)
theorem qGY:Av.Good qK5:=qFK.fnP qkN qf5 qdt qcp 2 8 (by kernel_rfl) (fun x=>by kernel_rfl) qw0
noncomputable def qJG:Ctx:=qK5.addPlain 129 (qo qgz qme qjh qdr)
theorem qEE:Av.Good qJG:=qGY.fnP qjh qgJ qme qdr 2 8 (by kernel_rfl) (fun x=>by kernel_rfl) qu0
noncomputable def qKI:Ctx:=qJG.addPlain 127 (qo qf1 ql3 qiB qeA)
theorem qFA:Av.Good qKI:=qEE.fnP qiB qfK ql3 qeA 2 8 (by kernel_rfl) (fun x=>by kernel_rfl) quJ
noncomputable def qKM:Ctx:=qKI.addPlain 100 (qo qgj qbC qjf qn)
theorem qED:Av.Good qKM:=qFA.fnP qjf qeV qbC qn 3 8 (by kernel_rfl) (fun x=>by kernel_rfl) qu9
noncomputable def qJ7:Ctx:=qKM.addPlain 183 (qo qpd qbd qrW qq)
theorem qE6:Av.Good qJ7:=qED.fnP qrW qjx qbd qq 2 6 (by kernel_rfl) (fun x=>by kernel_rfl) qHv
noncomputable def qKH:Ctx:=qJ7.addPlain 169 (qo qkV qc4 qnz qcw)
theorem qH5:Av.Good qKH:=qE6.fnP qnz qA qc4 qcw 4 8 (by kernel_rfl) (fun x=>by kernel_rfl) qzg
noncomputable def qK6:Ctx:=qKH.addPlain 168 (qo qnK qnW qqg qnO)
theorem qF9:Av.Good qK6:=qH5.fnP qqg qeJ qnW qnO 4 8 (by kernel_rfl) (fun x=>by kernel_rfl) qDx
noncomputable def qJS:Ctx:=qK6.addPlain 184 (qo qm0 qg4 qpE qg6)
theorem qG0:Av.Good qJS:=qF9.fnP qpE qbY qg4 qg6 4 8 (by kernel_rfl) (fun x=>by kernel_rfl) qBn
noncomputable def qKv:Ctx:=qJS.addPlain 185 (qo qn6 qq6 qrd qqN)
theorem qGX:Av.Good qKv:=qG0.fnP qrd qef qq6 qqN 4 8 (by kernel_rfl) (fun x=>by kernel_rfl) qCe
noncomputable def qJy:Ctx:=qKv.addPlain 170 (qo qlO qov qoN qoJ)
theorem qEj:Av.Good qJy:=qGX.fnP qoN qW qov qoJ 4 8 (by kernel_rfl) (fun x=>by kernel_rfl) qz5
noncomputable def qKj:Ctx:=qJy.addPlain 151 (qo qn1 qq0 qqQ qqH)
theorem qEN:Av.Good qKj:=qEj.fnP qqQ qU qq0 qqH 4 8 (by kernel_rfl) (fun x=>by kernel_rfl) qCR
noncomputable def qJ3:Ctx:=qKj.addPlain 117 (qo qoi qtR qp9 qoh)
theorem qFy:Av.Good qJ3:=qEN.fnP qp9 qtI qtR qoh 4 8 (by kernel_rfl) (fun x=>by kernel_rfl) qCo
noncomputable def qJm:Ctx:=qJ3.addPlain 103 (qo qhv qnj qj8 qdb)
theorem qH0:Av.Good qJm:=qFy.fnP qj8 qjX qnj qdb 2 8 (by kernel_rfl) (fun x=>by kernel_rfl) qwj
noncomputable def qKY:Ctx:=qJm.addPlain 65 (qo qpg quP qr2 qbb)
theorem qEJ:Av.Good qKY:=qH0.fnP qr2 qyX quP qbb 2 8 (by kernel_rfl) (fun x=>by kernel_rfl) qFC
noncomputable def qJq:Ctx:=qKY.addPlain 111 (qo qo8 quD qr1 qdh)
theorem qF4:Av.Good qJq:=qEJ.fnP qr1 qyK quD qdh 2 8 (by kernel_rfl) (fun x=>by kernel_rfl) qFx
noncomputable def qJp:Ctx:=qJq.addPlain 90 (qo qra qwi qs0 qju)
theorem qFQ:Av.Good qJp:=qF4.fnP qs0 qzK qwi qju 2 8 (by kernel_rfl) (fun x=>by kernel_rfl) qIQ
noncomputable def qKl:Ctx:=qJp.addPlain 178 (qo qqx qwb qtm qja)
theorem qHY:Av.Good qKl:=qFQ.fnP qtm qzN qwb qja 2 8 (by kernel_rfl) (fun x=>by kernel_rfl) qIP
noncomputable def qJB:Ctx:=qKl.addPlain 179 (qo ql0 qrv qoR qfX)
theorem qFE:Av.Good qJB:=qHY.fnP qoR qu7 qrv qfX 2 8 (by kernel_rfl) (fun x=>by kernel_rfl) qzD
noncomputable def qJU:Ctx:=qJB.addPlain 155 (qo qqc qwq qs9 qlk)
theorem qEO:Av.Good qJU:=qFE.fnP qs9 qzE qwq qlk 2 8 (by kernel_rfl) (fun x=>by kernel_rfl) qIF
noncomputable def qKX:Ctx:=qJU.addPlain 156 (qo qph quQ qr9 qnb)
theorem qHa:Av.Good qKX:=qEO.fnP qr9 qyF quQ qnb 2 8 (by kernel_rfl) (fun x=>by kernel_rfl) qFj
noncomputable def qK0:Ctx:=qKX.addPlain 45 (qo qqf qwv qs8 qgN)
theorem qIi:Av.Good qK0:=qHa.fnP qs8 qzw qwv qgN 2 8 (by kernel_rfl) (fun x=>by kernel_rfl) qJg
noncomputable def qKR:Ctx:=qK0.addPlain 176 (qo qqA qwp qs4 qk6)
theorem qHJ:Av.Good qKR:=qIi.fnP qs4 qAj qwp qk6 2 8 (by kernel_rfl) (fun x=>by kernel_rfl) qI7
noncomputable def qKG:Ctx:=qKR.addPlain 177 (qo qsh qxT qun qkv)
theorem qGm:Av.Good qKG:=qHJ.fnP qun qBv qxT qkv 2 8 (by kernel_rfl) (fun x=>by kernel_rfl) qLo
noncomputable def qJr:Ctx:=qKG.addPlain 110 (qo qp8 qwn qsY qhP)
theorem qHZ:Av.Good qJr:=qGm.fnP qsY qzL qwn qhP 2 8 (by kernel_rfl) (fun x=>by kernel_rfl) qIR
noncomputable def qKE:Ctx:=qJr.addPlain 172 (qo qqj qvP qs6 qot)
theorem qEn:Av.Good qKE:=qHZ.fnP qs6 qAe qvP qot 2 8 (by kernel_rfl) (fun x=>by kernel_rfl) qIT
noncomputable def qJO:Ctx:=qKE.addPlain 173 (qo qrb qqV qs7 qld)
theorem qF7:Av.Good qJO:=qEn.fnP qs7 qzB qqV qld 2 8 (by kernel_rfl) (fun x=>by kernel_rfl) qJe
noncomputable def qK9:Ctx:=qJO.addPlain 174 (qo qqD qvL qs2 qqd)
theorem qHG:Av.Good qK9:=qF7.fnP qs2 qz2 qvL qqd 2 8 (by kernel_rfl) (fun x=>by kernel_rfl) qI8
noncomputable def qJL:Ctx:=qK9.addPlain 175 (qo qqT qvM qtn qqC)
theorem qHE:Av.Good qJL:=qHG.fnP qtn qz9 qvM qqC 2 8 (by kernel_rfl) (fun x=>by kernel_rfl) qIL
noncomputable def qKw:Ctx:=qJL.addPlain 171 (qo qmG qsD qpt qmV)
theorem qGW:Av.Good qKw:=qHE.fnP qpt qwM qsD qmV 2 8 (by kernel_rfl) (fun x=>by kernel_rfl) qAP
noncomputable def qKL:Ctx:=qKw.addPlain 180 (qo qqP qwh qs5 qoW)
theorem qHm:Av.Good qKL:=qGW.fnP qs5 qzy qwh qoW 2 8 (by kernel_rfl) (fun x=>by kernel_rfl) qJi
noncomputable def qJu:Ctx:=qKL.addPlain 87 (qo qhy qng qj7 qp)
theorem qFY:Av.Good qJu:=qHm.fnP qj7 qrk qng qp 2 8 (by kernel_rfl) (fun x=>by kernel_rfl) qwl
noncomputable def qKV:Ctx:=qJu.addPlain 121 (qo qhi qnm qka qK)
theorem qIe:Av.Good qKV:=qFY.fnP qka qrh qnm qK 2 8 (by kernel_rfl) (fun x=>by kernel_rfl) qwy
noncomputable def qK7:Ctx:=qKV.addLoop 120 3 qcD.toT.toLoop
theorem qH4:Av.Good qK7:=qIe.loopN qcD 2 8 (by kernel_rfl) (fun _ _=>rfl) (fun x y s m K=>by kernel_rfl) (fun x y s s' K e=>by kernel_rfl)
noncomputable def qJs:Ctx:=qK7.addPlain 120 (qo qgH qb5 qjs qbg)
theorem qE4:Av.Good qJs:=qH4.fnP qjs qjw qb5 qbg 2 8 (by kernel_rfl) (fun x=>by kernel_rfl) qvG
noncomputable def qKi:Ctx:=qJs.addPlain 74 (qo qih qn0 qkz qii)
theorem qGn:Av.Good qKi:=qE4.fnP qkz qsx qn0 qii 2 8 (by kernel_rfl) (fun x=>by kernel_rfl) qwZ
noncomputable def qKZ:Ctx:=qKi.addPlain 106 (qo qim qnI qkC qdz)
theorem qEu:Av.Good qKZ:=qGn.fnP qkC qsw qnI qdz 2 8 (by kernel_rfl) (fun x=>by kernel_rfl) qwT
noncomputable def qKK:Ctx:=qKZ.addPlain 139 (qo qh8 qnS qkD qhV)
theorem qH6:Av.Good qKK:=qEu.fnP qkD qsd qnS qhV 2 8 (by kernel_rfl) (fun x=>by kernel_rfl) qw1
noncomputable def qJR:Ctx:=qKK.addPlain 108 (qo qhf qno qjV qfs)
theorem qFt:Av.Good qJR:=qH6.fnP qjV qri qno qfs 2 8 (by kernel_rfl) (fun x=>by kernel_rfl) qwx
noncomputable def qK8:Ctx:=qJR.addPlain 105 (qo qh7 qeQ qle q0)
theorem qEk:Av.Good qK8:=qFt.fnP qle qsg qeQ q0 2 8 (by kernel_rfl) (fun x=>by kernel_rfl) qwW
noncomputable def qJI:Ctx:=qK8.addLoop 160 3 qcZ.toT.toLoop
theorem qGg:Av.Good qJI:=qEk.loopN qcZ 2 8 (by kernel_rfl) (fun _ _=>rfl) (fun x y s m K=>by kernel_rfl) (fun x y s s' K e=>by kernel_rfl)
noncomputable def qJJ:Ctx:=qJI.addPlain 160 (qo qgm qmx qi9 qd2)
theorem qFM:Av.Good qJJ:=qGg.fnP qi9 qmc qmx qd2 2 8 (by kernel_rfl) (fun x=>by kernel_rfl) qvq
noncomputable def qJQ:Ctx:=qJJ.addLoop 133 3 qd8.toT.toLoop
theorem qFg:Av.Good qJQ:=qFM.loopN qd8 2 8 (by kernel_rfl) (fun _ _=>rfl) (fun x y s m K=>by kernel_rfl) (fun x y s s' K e=>by kernel_rfl)
noncomputable def qJn:Ctx:=qJQ.addPlain 133 (qo qik qof qk8 qk7)
theorem qIr:Av.Good qJn:=qFg.fnP qk8 qnQ qof qk7 2 8 (by kernel_rfl) (fun x=>by kernel_rfl) qw7
noncomputable def qKQ:Ctx:=qJn.addLoop 134 3 qea.toT.toLoop
theorem qHh:Av.Good qKQ:=qIr.loopN qea 2 8 (by kernel_rfl) (fun _ _=>rfl) (fun x y s m K=>by kernel_rfl) (fun x y s s' K e=>by kernel_rfl)
noncomputable def qJM:Ctx:=qKQ.addPlain 134 (qo qia qnU qkJ qkx)
theorem qFq:Av.Good qJM:=qHh.fnP qkJ qn2 qnU qkx 2 8 (by kernel_rfl) (fun x=>by kernel_rfl) qwV
noncomputable def qLf:Ctx:=qJM.addPlain 135 (qo qh1 qoa qlb qie)
theorem qHO:Av.Good qLf:=qFq.fnP qlb qsl qoa qie 2 8 (by kernel_rfl) (fun x=>by kernel_rfl) qw4
noncomputable def qJT:Ctx:=qLf.addPlain 136 (qo qio qnJ qkT qib)
theorem qFI:Av.Good qJT:=qHO.fnP qkT qsj qnJ qib 2 8 (by kernel_rfl) (fun x=>by kernel_rfl) qwY
noncomputable def qKu:Ctx:=qJT.addPlain 137 (qo qiZ qoZ qlD qlC)
theorem qHA:Av.Good qKu:=qFI.fnP qlD qsV qoZ qlC 2 8 (by kernel_rfl) (fun x=>by kernel_rfl) qxb
noncomputable def qKf:Ctx:=qKu.addPlain 138 (qo qip qon qlf qkB)
theorem qFk:Av.Good qKf:=qHA.fnP qlf qss qon qkB 2 8 (by kernel_rfl) (fun x=>by kernel_rfl) qwP
noncomputable def qJ9:Ctx:=qKf.addPlain 131 (qo qh4 qnG qkw qkO)
theorem qE1:Av.Good qJ9:=qFk.fnP qkw qsn qnG qkO 2 8 (by kernel_rfl) (fun x=>by kernel_rfl) qw6
noncomputable def qK2:Ctx:=qJ9.addPlain 132 (qo qhU qnT qlj qkL)
theorem qIu:Av.Good qK2:=qE1.fnP qlj qsy qnT qkL 2 8 (by kernel_rfl) (fun x=>by kernel_rfl) qwX
noncomputable def qLe:Ctx:=qK2.addPlain 96 (qo qhw qnh qj6 qen)
theorem qGv:Av.Good qLe:=qIu.fnP qj6 qrj qnh qen 2 8 (by kernel_rfl) (fun x=>by kernel_rfl) qv2
noncomputable def qJV:Ctx:=qLe.addPlain 150 (qo qo6 quL qr5 qjy)
theorem qEI:Av.Good qJV:=qGv.fnP qr5 qr6 quL qjy 2 8 (by kernel_rfl) (fun x=>by kernel_rfl) qEK
noncomputable def qKa:Ctx:=qJV.addPlain 130 (qo qgS qmg qjl qe7)
theorem qG7:Av.Good qKa:=qEI.fnP qjl qgx qmg qe7 2 8 (by kernel_rfl) (fun x=>by kernel_rfl) qu6
noncomputable def qJ4:Ctx:=qKa.addPlain 101 (qo qgF qmz qjd qed)
theorem qFN:Av.Good qJ4:=qG7.fnP qjd qgc qmz qed 2 8 (by kernel_rfl) (fun x=>by kernel_rfl) qvi
noncomputable def qKO:Ctx:=qJ4.addPlain 116 (qo qqJ qwe qtj qe4)
theorem qIk:Av.Good qKO:=qFN.fnP qtj qox qwe qe4 2 8 (by kernel_rfl) (fun x=>by kernel_rfl) qIOz
noncomputable def qKo:Ctx:=qKO.addLoop 114 2 qkp.toT.toLoop
theorem qGu:Av.Good qKo:=qIk.loopN qkp 2 8 (by kernel_rfl) (fun _ _=>rfl) (fun x y s m K=>by kernel_rfl) (fun x y s s' K e=>by kernel_rfl)
noncomputable def qJw:Ctx:=qKo.addLoop 102 2 qel.toT.toLoop
theorem qIl:Av.Good qJw:=qGu.loopN qel 2 8 (by kernel_rfl) (fun _ _=>rfl) (fun x y s m K=>by kernel_rfl) (fun x y s s' K e=>by kernel_rfl)
noncomputable def qKT:Ctx:=qJw.addPlain 114 (qo qo3 qjz qrY qcq)
theorem qHc:Av.Good qKT:=qIl.fnP qrY quH qjz qcq 2 8 (by kernel_rfl) (fun x=>by kernel_rfl) qEP
noncomputable def qKm:Ctx:=qKT.addPlain 102 (qo qgT qgn qi4 qf)
theorem qHS:Av.Good qKm:=qHc.fnP qi4 qml qgn qf 2 8 (by kernel_rfl) (fun x=>by kernel_rfl) qvz
noncomputable def qJ2:Ctx:=qKm.addPlain 152 (qo qnF qgb qqt qjG)
theorem qEA:Av.Good qJ2:=qHS.fnP qqt qtK qgb qjG 2 8 (by kernel_rfl) (fun x=>by kernel_rfl) qCH
noncomputable def qKd:Ctx:=qJ2.addPlain 153 (qo qmX qsP qpu qmN)
theorem qHg:Av.Good qKd:=qEA.fnP qpu qmT qsP qmN 2 8 (by kernel_rfl) (fun x=>by kernel_rfl) qBr
noncomputable def qJP:Ctx:=qKd.addPlain 154 (qo qsu qxw quu qsm)
theorem qHb:Av.Good qJP:=qHg.fnP quu qse qxw qsm 2 8 (by kernel_rfl) (fun x=>by kernel_rfl) qLk
noncomputable def qKA:Ctx:=qJP.addPlain 157 (qo qmZ qsA qpI qg1)
theorem qIs:Av.Good qKA:=qHb.fnP qpI qpJ qsA qg1 2 8 (by kernel_rfl) (fun x=>by kernel_rfl) qBe
noncomputable def qJW:Ctx:=qKA.addPlain 104 (qo qfY qlG qiD qbn)
theorem qFh:Av.Good qJW:=qIs.fnP qiD qf7 qlG qbn 2 8 (by kernel_rfl) (fun x=>by kernel_rfl) quS
noncomputable def qKD:Ctx:=qJW.addLoop 140 2 qeY.toT.toLoop
theorem qEY:Av.Good qKD:=qFh.loopN qeY 2 8 (by kernel_rfl) (fun _ _=>rfl) (fun x y s m K=>by kernel_rfl) (fun x y s s' K e=>by kernel_rfl)
noncomputable def qKp:Ctx:=qKD.addPlain 140 (qo qhW qd0 qkZ qfH)
theorem qEo:Av.Good qKp:=qEY.fnP qkZ qob qd0 qfH 2 8 (by kernel_rfl) (fun x=>by kernel_rfl) qwQ
noncomputable def qJ0:Ctx:=qKp.addPlain 118 (qo qo4 qpc qrS qm8)
theorem qHy:Av.Good qJ0:=qEo.fnP qrS qnc qpc qm8 2 8 (by kernel_rfl) (fun x=>by kernel_rfl) qHw
noncomputable def qJD:Ctx:=qJ0.addPlain 91 (qo qnE qfy qqE qe)
theorem qEi:Av.Good qJD:=qHy.fnP qqE qn9 qfy qe 2 8 (by kernel_rfl) (fun x=>by kernel_rfl) qCB
noncomputable def qKh:Ctx:=qJD.addPlain 107 (qo qgk qdw qi8 qdx)
theorem qGB:Av.Good qKh:=qEi.fnP qi8 qmw qdw qdx 2 8 (by kernel_rfl) (fun x=>by kernel_rfl) qvo
noncomputable def qKr:Ctx:=qKh.addPlain 75 (qo qf2 qiz qis qi)
theorem qFu:Av.Good qKr:=qGB.fnP qis qf0 qiz qi 2 8 (by kernel_rfl) (fun x=>by kernel_rfl) quA
noncomputable def qKJ:Ctx:=qKr.addPlain 94 (qo qqY qe8 qsZ qbT)
theorem qGh:Av.Good qKJ:=qFu.fnP qsZ qtk qe8 qbT 2 8 (by kernel_rfl) (fun x=>by kernel_rfl) qI4
noncomputable def qLa:Ctx:=qKJ.addPlain 93 (qo qom qdS qqk qc7)
theorem qHl:Av.Good qLa:=qGh.fnP qqk qqq qdS qc7 2 8 (by kernel_rfl) (fun x=>by kernel_rfl) qDh
noncomputable def qJX:Ctx:=qLa.addPlain 78 (qo qhr qdE qj5 qcu)
theorem qE9:Av.Good qJX:=qHl.fnP qj5 qhh qdE qcu 2 8 (by kernel_rfl) (fun x=>by kernel_rfl) qwB
noncomputable def qJz:Ctx:=qJX.addPlain 77 (qo qfS qlM qix qdg)
theorem qEw:Av.Good qJz:=qE9.fnP qix qlX qlM qdg 2 8 (by kernel_rfl) (fun x=>by kernel_rfl) quE
noncomputable def qJZ:Ctx:=qJz.addPlain 58 (qo qlU qrn qoK qba)
theorem qIc:Av.Good qJZ:=qEw.fnP qoK qjA qrn qba 2 8 (by kernel_rfl) (fun x=>by kernel_rfl) qAa
noncomputable def qLb:Ctx:=qJZ.addPlain 119 (qo qol qtF qqs qjJ)
theorem qFL:Av.Good qLb:=qIc.fnP qqs qq8 qtF qjJ 2 8 (by kernel_rfl) (fun x=>by kernel_rfl) qDk
noncomputable def qJv:Ctx:=qLb.addLoop 95 6 qkR.toT.toLoop
theorem qIm:Av.Good qJv:=qFL.loopN qkR 2 8 (by kernel_rfl) (fun _ _=>rfl) (fun x y s m K=>by kernel_rfl) (fun x y s s' K e=>by kernel_rfl)
noncomputable def qJY:Ctx:=qJv.addPlain 95 (qo qmL qiP qpm qT)
theorem qER:Av.Good qJY:=qIm.fnP qpm qsF qiP qT 2 8 (by kernel_rfl) (fun x=>by kernel_rfl) qBm
noncomputable def qKt:Ctx:=qJY.addPlain 149 (qo qoq qt5 qqL qcP)
theorem qGk:Av.Good qKt:=qER.fnP qqL qqr qt5 qcP 2 8 (by kernel_rfl) (fun x=>by kernel_rfl) qC7
noncomputable def qJt:Ctx:=qKt.addLoop 47 6 qhO.toT.toLoop
theorem qFd:Av.Good qJt:=qGk.loopN qhO 2 8 (by kernel_rfl) (fun _ _=>rfl) (fun x y s m K=>by kernel_rfl) (fun x y s s' K e=>by kernel_rfl)
noncomputable def qKN:Ctx:=qJt.addBody 47 (qmA qfO qfR qi2 ql4 qdv qF)
theorem qGQ:Av.Good qKN:=qFd.fnB qi2 qmf qdv qF 2 8 (by kernel_rfl) (fun x y=>by kernel_rfl) qvH
noncomputable def qJN:Ctx:=qKN.addBody 115 (qmA qfD qfu qiA qlv qdM qbf)
theorem qFi:Av.Good qJN:=qGQ.fnB qiA qlT qdM qbf 2 8 (by kernel_rfl) (fun x y=>by kernel_rfl) quV
noncomputable def qJo:Ctx:=qJN.addBody 48 (qmA qfc qfd qhK qkh qly qek)
theorem qHs:Av.Good qJo:=qFi.fnB qhK qpi qly qek 2 8 (by kernel_rfl) (fun x y=>by kernel_rfl) qua
noncomputable def qKS:Ctx:=qJo.addPlain 64 (qo qjF qpV qmn qY)
theorem qFS:Av.Good qKS:=qHs.fnP qmn qjT qpV qY 2 8 (by kernel_rfl) (fun x=>by kernel_rfl) qyA
noncomputable def qKg:Ctx:=qKS.addLoop 44 8 qjC.toT.toLoop
theorem qEF:Av.Good qKg:=qFS.loopN qjC 2 8 (by kernel_rfl) (fun _ _=>rfl) (fun x y s m K=>by kernel_rfl) (fun x y s s' K e=>by kernel_rfl)
noncomputable def qKk:Ctx:=qKg.addLoop 44 15 qiL.toT.toLoop
theorem qH8:Av.Good qKk:=qEF.loopN qiL 2 8 (by kernel_rfl) (fun _ _=>rfl) (fun x y s m K=>by kernel_rfl) (fun x y s s' K e=>by kernel_rfl)
noncomputable def qKC:Ctx:=qKk.addPlain 161 (qo qmH qm qpO qa)
theorem qHV:Av.Good qKC:=qH8.fnP qpO qpl qm qa 2 8 (by kernel_rfl) (fun x=>by kernel_rfl) qA6
noncomputable def qJF:Ctx:=qKC.addPlain 143 (qo qmJ qcz qpw qco)
theorem qGz:Av.Good qJF:=qHV.fnP qpw qpy qcz qco 2 8 (by kernel_rfl) (fun x=>by kernel_rfl) qBb
noncomputable def qHI:Ctx:=qJF.addPlain 162 (qo qkI qcJ qnx qb9)
theorem qDC:Av.Good qHI:=qGz.fnP qnx qk4 qcJ qb9 2 8 (by kernel_rfl) (fun x=>by kernel_rfl) qzc
noncomputable def qG4:Ctx:=qHI.addLoop 181 2 qdU.toT.toLoop
theorem qDL:Av.Good qG4:=qDC.loopN qdU 2 8 (by kernel_rfl) (fun _ _=>rfl) (fun x y s m K=>by kernel_rfl) (fun x y s s' K e=>by kernel_rfl)
noncomputable def qEe:Ctx:=qG4.addPlain 181 (qo qm2 qbj qpN qbM)
theorem qDM:Av.Good qEe:=qDL.fnP qpN qsS qbj qbM 2 8 (by kernel_rfl) (fun x=>by kernel_rfl) qBa
noncomputable def qGT:Ctx:=qEe.addPlain 141 (qo qmS qsE qpq qbw)
theorem qCE:Av.Good qGT:=qDM.fnP qpq qsO qsE qbw 2 8 (by kernel_rfl) (fun x=>by kernel_rfl) qAZ
noncomputable def qG3:Ctx:=qGT.addPlain 142 (qo qkQ qgM qny qdn)
theorem qDN:Av.Good qG3:=qCE.fnP qny qir qgM qdn 2 12 (by kernel_rfl) (fun x=>by kernel_rfl) qzh
noncomputable def qHz:Ctx:=qG3.addPlain 163 (qo qlW qhJ qoy qdR)
theorem qCQ:Av.Good qHz:=qDN.fnP qoy qjD qhJ qdR 3 12 (by kernel_rfl) (fun x=>by kernel_rfl) qAp
noncomputable def qFX:Ctx:=qHz.addPlain 164 (qo qjO qfG qmE qc9)
theorem qCk:Av.Good qFX:=qCQ.fnP qmE qhE qfG qc9 2 12 (by kernel_rfl) (fun x=>by kernel_rfl) qyB
noncomputable def qGc:Ctx:=qFX.addPlain 165 (qo ql1 qhG qoB qdP)
theorem qDT:Av.Good qGc:=qCk.fnP qoB qjB qhG qdP 2 12 (by kernel_rfl) (fun x=>by kernel_rfl) qAu
noncomputable def qEy:Ctx:=qGc.addPlain 166 (qo qk3 qgA qnq qdp)
theorem qDO:Av.Good qEy:=qDT.fnP qnq qiG qgA qdp 2 12 (by kernel_rfl) (fun x=>by kernel_rfl) qzl
noncomputable def qIn:Ctx:=qEy.addPlain 144 (qo qmU qks qpK qiO)
theorem qDa:Av.Good qIn:=qDO.fnP qpK qkq qks qiO 2 12 (by kernel_rfl) (fun x=>by kernel_rfl) qBd
noncomputable def qGI:Ctx:=qIn.addPlain 112 (qo qkW qiu qnt qE)
theorem qCv:Av.Good qGI:=qDa.fnP qnt qiJ qiu qE 2 12 (by kernel_rfl) (fun x=>by kernel_rfl) qzi
noncomputable def qGx:Ctx:=qGI.addPlain 122 (qo qhs qnn qkd qhn)
theorem qDc:Av.Good qGx:=qCv.fnP qkd qfm qnn qhn 2 20 (by kernel_rfl) (fun x=>by kernel_rfl) qrg
noncomputable def qGG:Ctx:=qGx.addLoop 126 3 qdB.toT.toLoop
theorem qC2:Av.Good qGG:=qDc.loopN qdB 2 8 (by kernel_rfl) (fun _ _=>rfl) (fun x y s m K=>by kernel_rfl) (fun x y s s' K e=>by kernel_rfl)
noncomputable def qHx:Ctx:=qGG.addPlain 126 (qo qgP qcj qjt qV)
theorem qDA:Av.Good qHx:=qC2.fnP qjt qjp qcj qV 2 8 (by kernel_rfl) (fun x=>by kernel_rfl) qvn
noncomputable def qHL:Ctx:=qHx.addLoop 125 3 qex.toT.toLoop
theorem qC6:Av.Good qHL:=qDA.loopN qex 2 8 (by kernel_rfl) (fun _ _=>rfl) (fun x y s m K=>by kernel_rfl) (fun x y s s' K e=>by kernel_rfl)
noncomputable def qG6:Ctx:=qHL.addPlain 125 (qo qho qb3 qjY qH)
theorem qCY:Av.Good qG6:=qC6.fnP qjY qht qb3 qH 2 8 (by kernel_rfl) (fun x=>by kernel_rfl) qwm
noncomputable def qE5:Ctx:=qG6.addPlain 98 (qo qhk qb2 qke qbr)
theorem qCU:Av.Good qE5:=qCY.fnP qke qj9 qb2 qbr 2 8 (by kernel_rfl) (fun x=>by kernel_rfl) qww
noncomputable def qE0:Ctx:=qE5.addPlain 97 (qo qhl qfq qkf qcM)
theorem qCP:Av.Good qE0:=qCU.fnP qkf qft qfq qcM 2 8 (by kernel_rfl) (fun x=>by kernel_rfl) qwk
noncomputable def qHN:Ctx:=qE0.addLoop 99 8 qcd.toT.toLoop
theorem qCM:Av.Good qHN:=qCP.loopN qcd 3 12 (by kernel_rfl) (fun _ _=>rfl) (fun x y s m K=>by kernel_rfl) (fun x y s s' K e=>by kernel_rfl)
noncomputable def qIa:Ctx:=qHN.addPlain 99 (qo qhm qdF qkc qv)
theorem qDp:Av.Good qIa:=qCM.fnP qkc qdG qdF qv 3 12 (by kernel_rfl) (fun x=>by kernel_rfl) qv5
noncomputable def qFe:Ctx:=qIa.addLoop 73 8 qbX.toT.toLoop
theorem qCW:Av.Good qFe:=qDp.loopN qbX 2 8 (by kernel_rfl) (fun _ _=>rfl) (fun x y s m K=>by kernel_rfl) (fun x y s s' K e=>by kernel_rfl)
noncomputable def qFs:Ctx:=qFe.addPlain 73 (qo qf8 qez qiI qdN)
theorem qDP:Av.Good qFs:=qCW.fnP qiI qeD qez qdN 2 8 (by kernel_rfl) (fun x=>by kernel_rfl) quT
noncomputable def qHi:Ctx:=qFs.addPlain 88 (qo qpe qr0 qr3 qnd)
theorem qDV:Av.Good qHi:=qDP.fnP qr3 qyQ qr0 qnd 2 8 (by kernel_rfl) (fun x=>by kernel_rfl) qGP
noncomputable def qFf:Ctx:=qHi.addPlain 10 (qo qku qql qnr q6)
theorem qCT:Av.Good qFf:=qDV.fnP qnr qiq qql q6 2 8 (by kernel_rfl) (fun x=>by kernel_rfl) qzk
noncomputable def qFz:Ctx:=qFf.addBody 67 (qmA qfz qfB qiF qlq qey qiw)
theorem qCK:Av.Good qFz:=qCT.fnB qiF qlQ qey qiw 3 8 (by kernel_rfl) (fun x y=>by kernel_rfl) quU
noncomputable def qEL:Ctx:=qFz.addCut 89 5 qeh.toT.toLoop
theorem qC0:Av.Good qEL:=qCK.cutN qeh 2 8 (by kernel_rfl) (fun _ _=>rfl) (fun x y K=>by kernel_rfl)
noncomputable def qHX:Ctx:=qEL.addBody 66 (qmA qfe qfb qhQ qkk qlp qlo)
theorem qCV:Av.Good qHX:=qC0.fnB qhQ qo5 qlp qlo 2 8 (by kernel_rfl) (fun x y=>by kernel_rfl) qub
noncomputable def qEh:Ctx:=qHX.addBody 23 (qmA qeu qet qgs qi5 qeG qjQ)
theorem qCO:Av.Good qEh:=qCV.fnB qgs qnV qeG qjQ 3 8 (by kernel_rfl) (fun x y=>by kernel_rfl) qtq
noncomputable def qy1:Ctx:=qEh.addBody 24 (qmA qeK qeR qg9 qjK qkm qki)
theorem qwK:Av.Good qy1:=qCO.fnB qg9 qoX qkm qki 3 8 (by kernel_rfl) (fun x y=>by kernel_rfl) qtM
noncomputable def qFB:Ctx:=qy1.addBody 46 (qAC qy1 qes 8 4 46 68 139)
theorem qCJ:Av.Good qFB:=qwK.addBody (qyl qwK (by kernel_rfl) 8 4) (by kernel_rfl)
noncomputable def qHt:Ctx:=qFB.addBody 46 (qmA qe9 qfa qhT qkg qbG qh)
theorem qDI:Av.Good qHt:=qCJ.fnB qhT qlu qbG qh 2 8 (by kernel_rfl) (fun x y=>by kernel_rfl) qud
noncomputable def qH7:Ctx:=qHt.addLoop 21 2 qn3.toT.toLoop
theorem qDq:Av.Good qH7:=qDI.loopN qn3 3 8 (by kernel_rfl) (fun _ _=>rfl) (fun x y s m K=>by kernel_rfl) (fun x y s s' K e=>by kernel_rfl)
noncomputable def qEz:Ctx:=qH7.addBody 21 (qmA qeI qeH qhd qjR qhe qkj)
theorem qDW:Av.Good qEz:=qDq.fnB qhd qkl qhe qkj 3 8 (by kernel_rfl) (fun x y=>by kernel_rfl) qt6
noncomputable def qEB:Ctx:=qEz.addPlain 83 (qo qsr qor quq qp1)
theorem qDD:Av.Good qEB:=qDW.fnP quq qod qor qp1 2 8 (by kernel_rfl) (fun x=>by kernel_rfl) qLI
noncomputable def qG5:Ctx:=qEB.addPlain 84 (qo qmQ qsN qpn qcg)
theorem qDR:Av.Good qG5:=qDD.fnP qpn qpx qsN qcg 2 8 (by kernel_rfl) (fun x=>by kernel_rfl) qAS
noncomputable def qHk:Ctx:=qG5.addPlain 55 (qo qqI qe6 qth qbh)
theorem qDw:Av.Good qHk:=qDR.fnP qth qmv qe6 qbh 2 8 (by kernel_rfl) (fun x=>by kernel_rfl) qJh
noncomputable def qIb:Ctx:=qHk.addPlain 56 (qo qm1 qsC qps qdI)
theorem qDl:Av.Good qIb:=qDw.fnP qps qkn qsC qdI 3 8 (by kernel_rfl) (fun x=>by kernel_rfl) qAM
noncomputable def qGp:Ctx:=qIb.addPlain 57 (qo qmO qsz qpr qdj)
theorem qDf:Av.Good qGp:=qDl.fnP qpr qpj qsz qdj 2 20 (by kernel_rfl) (fun x=>by kernel_rfl) qAR
noncomputable def qGN:Ctx:=qGp.addLoop 32 7 qlg.toT.toLoop
theorem qCs:Av.Good qGN:=qDf.loopN qlg 3 8 (by kernel_rfl) (fun _ _=>rfl) (fun x y s m K=>by kernel_rfl) (fun x y s s' K e=>by kernel_rfl)
noncomputable def qEG:Ctx:=qGN.addPlain 32 (qo qmM qpk qpF qO)
theorem qDi:Av.Good qEG:=qCs.fnP qpF qpp qpk qO 4 8 (by kernel_rfl) (fun x=>by kernel_rfl) qBl
noncomputable def qEr:Ctx:=qEG.addCut 8 12 qi0.toT.toLoop
theorem qDj:Av.Good qEr:=qDi.cutN qi0 6 12 (by kernel_rfl) (fun _ _=>rfl) (fun x y K=>by kernel_rfl)
noncomputable def qE8:Ctx:=qEr.addPlain 8 (qo qmI qsH qpC qc3)
theorem qDJ:Av.Good qE8:=qDj.fnP qpC qsR qsH qc3 6 12 (by kernel_rfl) (fun x=>by kernel_rfl) qAO
noncomputable def qF5:Ctx:=qE8.addPlain 7 (qo qgL qmi qq3 qmj)
theorem qCu:Av.Good qF5:=qDJ.fnP qq3 qqS qmi qmj 12 40 (by kernel_rfl) (fun x=>by kernel_rfl) qvc
noncomputable def qGR:Ctx:=qF5.addLoop 21 2 qoo.toT.toLoop
theorem qCp:Av.Good qGR:=qCu.loopN qoo 3 8 (by kernel_rfl) (fun _ _=>rfl) (fun x y s m K=>by kernel_rfl) (fun x y s s' K e=>by kernel_rfl)
noncomputable def qGK:Ctx:=qGR.dropBody 21
theorem qD2:Av.Good qGK:=qCp.dropBody 21
noncomputable def qGa:Ctx:=qGK.addBody 21 (qmA qqb qqw quh qv1 qsp qxs)
theorem qCh:Av.Good qGa:=qD2.fnB quh qxm qsp qxs 3 8 (by kernel_rfl) (fun x y=>by kernel_rfl) qLC
noncomputable def qEU:Ctx:=qGa.addPlain 12 (qo qkF qqv qnv qfk)
theorem qCr:Av.Good qEU:=qCh.fnP qnv qqi qqv qfk 6 12 (by kernel_rfl) (fun x=>by kernel_rfl) qy4
noncomputable def qGj:Ctx:=qEU.addPlain 30 (qo qkr qwG qsJ qwD)
theorem qDo:Av.Good qGj:=qCr.addPlain (qOz ) (by kernel_rfl)
noncomputable def qHu:Ctx:=qGj.addLoop 31 3 qnX.toT.toLoop
theorem qCz:Av.Good qHu:=qDo.loopN qnX 2 8 (by kernel_rfl) (fun _ _=>rfl) (fun x y s m K=>by kernel_rfl) (fun x y s s' K e=>by kernel_rfl)
noncomputable def qHC:Ctx:=qHu.addPlain 31 (qo qjH qpP ql9 qpW)
theorem qCA:Av.Good qHC:=qCz.fnP ql9 qmr qpP qpW 2 8 (by kernel_rfl) (fun x=>by kernel_rfl) qyz
noncomputable def qH9:Ctx:=qHC.addLoop 85 2 qeb.toT.toLoop
theorem qCX:Av.Good qH9:=qCA.loopN qeb 3 8 (by kernel_rfl) (fun _ _=>rfl) (fun x y s m K=>by kernel_rfl) (fun x y s s' K e=>by kernel_rfl)
noncomputable def qHT:Ctx:=qH9.addLoop 86 3 qdu.toT.toLoop
theorem qCN:Av.Good qHT:=qCX.loopN qdu 3 8 (by kernel_rfl) (fun _ _=>rfl) (fun x y s m K=>by kernel_rfl) (fun x y s s' K e=>by kernel_rfl)
noncomputable def qFw:Ctx:=qHT.addPlain 85 (qo qlS qe0 qvg qc0)
theorem qCw:Av.Good qFw:=qCN.fnP qvg qrI qe0 qc0 3 8 (by kernel_rfl) (fun x=>by kernel_rfl) qAF
noncomputable def qEV:Ctx:=qFw.addPlain 86 (qo qid qga qsk qdo)
theorem qDE:Av.Good qEV:=qCw.fnP qsk qn4 qga qdo 3 8 (by kernel_rfl) (fun x=>by kernel_rfl) qwS
noncomputable def qIy:Ctx:=qEV.addPlain 41 (qo qgU qmo qjr qbc)
theorem qD1:Av.Good qIy:=qDE.fnP qjr qgv qmo qbc 3 8 (by kernel_rfl) (fun x=>by kernel_rfl) qu2
noncomputable def qFF:Ctx:=qIy.addPlain 60 (qo qlc qcl qns qcv)
theorem qDz:Av.Good qFF:=qD1.fnP qns qkP qcl qcv 3 8 (by kernel_rfl) (fun x=>by kernel_rfl) qy6
noncomputable def qGq:Ctx:=qFF.addPlain 62 (qo qgh qmb qjc ql8)
theorem qDr:Av.Good qGq:=qDz.fnP qjc qi6 qmb ql8 3 8 (by kernel_rfl) (fun x=>by kernel_rfl) qvm
noncomputable def qIg:Ctx:=qGq.addPlain 34 (qo qoc qtJ qqZ qbp)
theorem qC5:Av.Good qIg:=qDr.fnP qqZ qqp qtJ qbp 4 8 (by kernel_rfl) (fun x=>by kernel_rfl) qDS
noncomputable def qGf:Ctx:=qIg.addPlain 38 (qo qiY qoY qlA qo1)
theorem qCb:Av.Good qGf:=qC5.fnP qlA qlB qoY qo1 4 8 (by kernel_rfl) (fun x=>by kernel_rfl) qxX
noncomputable def qG9:Ctx:=qGf.addPlain 33 (qo qkA qq4 qnC qiC)
theorem qDs:Av.Good qG9:=qCb.fnP qnC qnB qq4 qiC 4 8 (by kernel_rfl) (fun x=>by kernel_rfl) qzm
noncomputable def qEs:Ctx:=qG9.addPlain 37 (qo qgy qmB qje qmC)
theorem qCa:Av.Good qEs:=qDs.fnP qje qi7 qmB qmC 4 8 (by kernel_rfl) (fun x=>by kernel_rfl) qvd
noncomputable def qHq:Ctx:=qEs.addPlain 35 (qo qlI qrF qoD qfQ)
theorem qCx:Av.Good qHq:=qCa.fnP qoD qoA qrF qfQ 4 8 (by kernel_rfl) (fun x=>by kernel_rfl) qAo
noncomputable def qGH:Ctx:=qHq.addPlain 16 (qo qgg qmm qqB ql7)
theorem qCI:Av.Good qGH:=qCx.fnP qqB qqm qmm ql7 6 500 (by kernel_rfl) (fun x=>by kernel_rfl) qvk
noncomputable def qHW:Ctx:=qGH.addPlain 36 (qo qlJ qoO qoE qe2)
theorem qDK:Av.Good qHW:=qCI.fnP qoE qrt qoO qe2 4 8 (by kernel_rfl) (fun x=>by kernel_rfl) qzt
noncomputable def qEW:Ctx:=qHW.addLoop 17 11 qfJ.toT.toLoop
theorem qDu:Av.Good qEW:=qDK.loopN qfJ 3 8 (by kernel_rfl) (fun _ _=>rfl) (fun x y s m K=>by kernel_rfl) (fun x y s s' K e=>by kernel_rfl)
noncomputable def qEf:Ctx:=qEW.addPlain 17 (qo qkX qqG qnw qqO)
theorem qDX:Av.Good qEf:=qDu.fnP qnw qqe qqG qqO 4 8 (by kernel_rfl) (fun x=>by kernel_rfl) qy5
noncomputable def qGU:Ctx:=qEf.addPlain 63 (qo qgR qmp qji qb7)
theorem qCy:Av.Good qGU:=qDX.fnP qji qq1 qmp qb7 2 8 (by kernel_rfl) (fun x=>by kernel_rfl) qvf
noncomputable def qH2:Ctx:=qGU.addPlain 53 (qo qiW qfh qlz qgZ)
theorem qCl:Av.Good qH2:=qCy.fnP qlz qgW qfh qgZ 2 8 (by kernel_rfl) (fun x=>by kernel_rfl) qxn
noncomputable def qGi:Ctx:=qH2.addPlain 81 (qo qfx qlr qhL qci)
theorem qCd:Av.Good qGi:=qCl.fnP qhL qfv qlr qci 3 8 (by kernel_rfl) (fun x=>by kernel_rfl) qt9
noncomputable def qIo:Ctx:=qGi.addLoop 109 6 qiK.toT.toLoop
theorem qC9:Av.Good qIo:=qCd.loopN qiK 2 8 (by kernel_rfl) (fun _ _=>rfl) (fun x y s m K=>by kernel_rfl) (fun x y s s' K e=>by kernel_rfl)
noncomputable def qHD:Ctx:=qIo.addPlain 109 (qo qhx qjW qj3 qj2)
theorem qCC:Av.Good qHD:=qC9.fnP qj3 qnf qjW qj2 2 8 (by kernel_rfl) (fun x=>by kernel_rfl) qwt
noncomputable def qEC:Ctx:=qHD.addPlain 79 (qo qhg qdd qj1 qcN)
theorem qCj:Av.Good qEC:=qCC.fnP qj1 qnk qdd qcN 3 8 (by kernel_rfl) (fun x=>by kernel_rfl) qvR
noncomputable def qFW:Ctx:=qEC.addLoop 80 2 qd1.toT.toLoop
theorem qC4:Av.Good qFW:=qCj.loopN qd1 3 8 (by kernel_rfl) (fun _ _=>rfl) (fun x y s m K=>by kernel_rfl) (fun x y s s' K e=>by kernel_rfl)
noncomputable def qEQ:Ctx:=qFW.addPlain 80 (qo qfI qdQ qit qeB)
theorem qCq:Av.Good qEQ:=qC4.fnP qit qiE qdQ qeB 3 8 (by kernel_rfl) (fun x=>by kernel_rfl) quN
noncomputable def qES:Ctx:=qEQ.addLoop 51 6 qfW.toT.toLoop
theorem qDm:Av.Good qES:=qCq.loopN qfW 3 8 (by kernel_rfl) (fun _ _=>rfl) (fun x y s m K=>by kernel_rfl) (fun x y s s' K e=>by kernel_rfl)
noncomputable def qGr:Ctx:=qES.addPlain 51 (qo qhj qda qj0 qbs)
theorem qCD:Av.Good qGr:=qDm.fnP qj0 qjZ qda qbs 3 8 (by kernel_rfl) (fun x=>by kernel_rfl) qwd
noncomputable def qEX:Ctx:=qGr.addLoop 52 4 qff.toT.toLoop
theorem qDF:Av.Good qEX:=qCD.loopN qff 3 8 (by kernel_rfl) (fun _ _=>rfl) (fun x y s m K=>by kernel_rfl) (fun x y s s' K e=>by kernel_rfl)
noncomputable def qGZ:Ctx:=qEX.addPlain 52 (qo qfU qdK qiH qcs)
theorem qDY:Av.Good qGZ:=qDF.fnP qiH qiM qdK qcs 3 8 (by kernel_rfl) (fun x=>by kernel_rfl) quX
noncomputable def qFT:Ctx:=qGZ.addPlain 49 (qo qh9 qnH qkM qeP)
theorem qD0:Av.Good qFT:=qDY.fnP qkM qhY qnH qeP 3 8 (by kernel_rfl) (fun x=>by kernel_rfl) qw5
noncomputable def qFZ:Ctx:=qFT.addPlain 42 (qo qgI qms qjj qcB)
theorem qDd:Av.Good qFZ:=qD0.fnP qjj qjg qms qcB 2 8 (by kernel_rfl) (fun x=>by kernel_rfl) qvF
noncomputable def qGA:Ctx:=qFZ.addPlain 43 (qo qgV qd4 qi3 qcV)
theorem qDZ:Av.Good qGA:=qDd.fnP qi3 qgD qd4 qcV 3 20 (by kernel_rfl) (fun x=>by kernel_rfl) qvs
noncomputable def qGl:Ctx:=qGA.addPlain 19 (qo qgl qeX qjo qd7)
theorem qDH:Av.Good qGl:=qDZ.fnP qjo qe3 qeX qd7 3 8 (by kernel_rfl) (fun x=>by kernel_rfl) qu8
noncomputable def qE3:Ctx:=qGl.addPlain 29 (qo qi1 qcS qlE qx)
theorem qCt:Av.Good qE3:=qDH.fnP qlE qgX qcS qx 2 8 (by kernel_rfl) (fun x=>by kernel_rfl) qxf
noncomputable def qH3:Ctx:=qE3.addPlain 15 (qo qgr qd3 qjm qbA)
theorem qCG:Av.Good qH3:=qCt.fnP qjm qeW qd3 qbA 4 8 (by kernel_rfl) (fun x=>by kernel_rfl) qu4
noncomputable def qGD:Ctx:=qH3.addOwn 72
theorem qCf:Av.Good qGD:=qCG.addOwn 72
noncomputable def qEm:Ctx:=qGD.addOwn 50
theorem qCS:Av.Good qEm:=qCf.addOwn 50
noncomputable def qGC:Ctx:=qEm.addOwn 26
theorem qB9:Av.Good qGC:=qCS.addOwn 26
noncomputable def qFb:Ctx:=qGC.addPlain 11 (qo qgq qmD qjk qbS)
theorem qDe:Av.Good qFb:=qB9.fnP qjk qgw qmD qbS 2 8 (by kernel_rfl) (fun x=>by kernel_rfl) qvp
noncomputable def qGM:Ctx:=qFb.addPlain 71 (qo qil qdY qk2 qbx)
theorem qCc:Av.Good qGM:=qDe.fnP qk2 qf4 qdY qbx 2 8 (by kernel_rfl) (fun x=>by kernel_rfl) qw3
noncomputable def qGb:Ctx:=qGM.addBody 50 (qmA qgp qgo qdc qdA qeq qbJ)
theorem qDU:Av.Good qGb:=qCc.fnB qdc qeo qeq qbJ 4 8 (by kernel_rfl) (fun x y=>by kernel_rfl) qv6
noncomputable def qHK:Ctx:=qGb.addLoop 26 3 qcY.toT.toLoop
theorem qCm:Av.Good qHK:=qDU.loopN qcY 4 8 (by kernel_rfl) (fun _ _=>rfl) (fun x y s m K=>by kernel_rfl) (fun x y s s' K e=>by kernel_rfl)
noncomputable def qF3:Ctx:=qHK.addBody 26 (qmA qfL qfP qjn qlR qcW qbB)
theorem qC8:Av.Good qF3:=qCm.fnB qjn qec qcW qbB 4 8 (by kernel_rfl) (fun x y=>by kernel_rfl) qvr
noncomputable def qHH:Ctx:=qF3.addLoop 27 3 qdi.toT.toLoop
theorem qCi:Av.Good qHH:=qC8.loopN qdi 4 8 (by kernel_rfl) (fun _ _=>rfl) (fun x y s m K=>by kernel_rfl) (fun x y s s' K e=>by kernel_rfl)
noncomputable def qGs:Ctx:=qHH.addPlain 27 (qo qfV qeC qiy qdL)
theorem qDv:Av.Good qGs:=qCi.fnP qiy qdJ qeC qdL 4 8 (by kernel_rfl) (fun x=>by kernel_rfl) quZ
noncomputable def qFP:Ctx:=qGs.addPlain 25 (qo qh0 qds qk1 qbi)
theorem qC1:Av.Good qFP:=qDv.fnP qk1 qf3 qds qbi 4 20 (by kernel_rfl) (fun x=>by kernel_rfl) qw8
noncomputable def qEv:Ctx:=qFP.addPlain 9 (qo qij qfM qkS qcF)
theorem qDn:Av.Good qEv:=qC1.fnP qkS qfT qfM qcF 4 8 (by kernel_rfl) (fun x=>by kernel_rfl) qwR
noncomputable def qIz:Ctx:=qEv.addPlain 13 (qo qgG qe1 qjb qbL)
theorem qCZ:Av.Good qIz:=qDn.fnP qjb qeU qe1 qbL 4 8 (by kernel_rfl) (fun x=>by kernel_rfl) qve
noncomputable def qGd:Ctx:=qIz.addPlain 6 (qo qge qd9 qjq qcT)
theorem qCg:Av.Good qGd:=qCZ.fnP qjq qgK qd9 qcT 3 8 (by kernel_rfl) (fun x=>by kernel_rfl) qvb
noncomputable def qIh:Ctx:=qGd.addLoop 14 4 qdm.toT.toLoop
theorem qDQ:Av.Good qIh:=qCg.loopN qdm 3 8 (by kernel_rfl) (fun _ _=>rfl) (fun x y s m K=>by kernel_rfl) (fun x y s s' K e=>by kernel_rfl)
noncomputable def qHQ:Ctx:=qIh.addPlain 14 (qo qcQ qbZ qdH qbt)
theorem qCL:Av.Good qHQ:=qDQ.fnP qdH qcn qbZ qbt 3 8 (by kernel_rfl) (fun x=>by kernel_rfl) qoI
noncomputable def qLD:Ctx:=qHQ
theorem qAA:Av.Good qLD:=qCL
end Go.Proofs.YtamnhodjidmlcaaGreat
end
section
namespace Go.Av
open Go
section
variable (op rd rn rm ra imm cond:Int) (w:Bool)
end
theorem qSX (s:List UInt8) (k:Nat):hb (hx s k) 0=qfi s k:=by
 unfold hx
 rw[qtP,Nat.mod_eq_of_lt (qzf s k)]
end Go.Av
end
