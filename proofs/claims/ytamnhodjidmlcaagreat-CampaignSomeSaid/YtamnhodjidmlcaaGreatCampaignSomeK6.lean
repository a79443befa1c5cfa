/- Texts of the proof, one behind the other. -/
import Derived.Test.YtamnhodjidmlcaaGreatCampaignSomeK5
import Derived.Test.YtamnhodjidmlcaaGreatCampaignSomeK1
import Derived.WalkKit
import Derived.Defers
import Derived.Recover
import Derived.Test.YtamnhodjidmlcaaGreatAvDefer
import Derived.Test.YtamnhodjidmlcaaGreatProg
import Derived.RangeFuncNested
import Derived.RangeFuncBound
import Derived.RangeFuncCalls
import Derived.RangeFuncLeaves
import Derived.RangeFuncBox
import Derived.Shelf.Abstract
import Derived.Shelf.RegionOpen
import Derived.OwnWalkIn
import Derived.TacticsInMore
import Derived.LoopNIn
import Derived.LoopIn
import Derived.Maps.AppendAt
import Derived.Test.YtamnhodjidmlcaaGreatCampaignSomeK2
import Derived.Test.YtamnhodjidmlcaaGreatCampaignSomeK3
import Derived.Test.YtamnhodjidmlcaaGreatCampaignSomeK4
section
namespace Go.Av
open Go
abbrev qb0:Ty:=.pair qew (.pair .str (.pair .str .unit))
abbrev qbx:Ty:=.pair (.int .i64) (.pair (.int .i64) (.pair (.int .i64) (.pair (.int .i64) .unit)))
abbrev qgG:List Ty:=[(.int .i64)]
abbrev qji:Sh:=Sh.ty Ty.str
def qqu (x:qc qgG):PO (Sh.den qji) :=
 (.ret ([toByte (IntKind.wrap IntKind.u8 (Int.tmod (qq x) 256)),toByte (IntKind.wrap IntKind.u8 (Int.tmod (w64 (Int.tdiv (qq x) 256)) 256)),toByte (IntKind.wrap IntKind.u8 (Int.tmod (w64 (Int.tdiv (qq x) 65536)) 256)),toByte (IntKind.wrap IntKind.u8 (w64 (Int.tdiv (qq x) 16777216)))]))
def qml (_:qc qgG):Bool:=true
def qb5 (x:qc qgG):Sh.den qji:=qcP x
theorem qBQ (m k:Nat) (hm:m<4294967296):w64 (Int.tdiv (m:Int) (k:Int))=((m / k:Nat):Int):=by
 have h:Int.tdiv (m:Int) (k:Int)=((m / k:Nat):Int):=rfl
 have h2:m / k≤m:=Nat.div_le_self _ _
 rw[h]
 generalize m / k=q at *
 exact qt (by omega) (by omega)
theorem qCv (m k:Nat):Int.tmod (m:Int) (k:Int)=((m % k:Nat):Int):=rfl
theorem quO (x:qc qgG) (_:qml x=true):(qqu x).val=some (qb5 x):=by
 show some [toByte (IntKind.wrap IntKind.u8 (Int.tmod (wn x:Int) ((256:Nat):Int))),toByte (IntKind.wrap IntKind.u8 (Int.tmod (w64 (Int.tdiv (wn x:Int) ((256:Nat):Int))) ((256:Nat):Int))),toByte (IntKind.wrap IntKind.u8 (Int.tmod (w64 (Int.tdiv (wn x:Int) ((65536:Nat):Int))) ((256:Nat):Int))),toByte (IntKind.wrap IntKind.u8 (w64 (Int.tdiv (wn x:Int) ((16777216:Nat):Int))))]=some (qcP x)
 rw[qxm]
 have h:=qdB x
 rw[qBQ _ _ h,qBQ _ _ h,qBQ _ _ h,qCv,qCv,qCv,qqv,qqv,qqv,qqv]
 have e:∀q:Nat,((q % 256:Nat):Int) % 256=((q % 256:Nat):Int):=fun q=>by omega
 have e2:((wn x / 16777216:Nat):Int) % 256=((wn x / 16777216 % 256:Nat):Int):=by omega
 rw[e,e,e,e2]
abbrev qi8:List Ty:=[.str]
abbrev qlI:Sh:=Sh.tup (Sh.pair (Sh.ty (Ty.int IntKind.i64)) (Sh.pair (Sh.ty Ty.bool) (Sh.ty Ty.unit)))
def qgX (x:qc qi8):PO (Sh.den qlI) :=
 (.ite (qh x != 4)
  (.ret ((0,false,())))
  (.ite (inRange 0 (List.length x)&&(inRange 1 (List.length x)&&(inRange 2 (List.length x)&&inRange 3 (List.length x))))
  (.ret ((w64 (w64 (w64 (w64 (u8I (List.getD x (Int.toNat 0) 0))+w64 (256*w64 (u8I (List.getD x (Int.toNat 1) 0))))+w64 (65536*w64 (u8I (List.getD x (Int.toNat 2) 0))))+w64 (16777216*w64 (u8I (List.getD x (Int.toNat 3) 0)))),true,())))
  .fail))
def qfk (x:qc qi8):Bool:=(qgX x).val.isSome
def qg0 (x:qc qi8):Sh.den qlI:=(qgX x).qQ default
theorem qxt (x:qc qi8) (h:qfk x=true):(qgX x).val=some (qg0 x):=PO.qb7 default h
abbrev qfH:List Ty:=[qew,(.int .i64)]
abbrev qhM:Sh:=Sh.tup (Sh.pair (Sh.osl 32 qiJ) (Sh.pair (Sh.ty (Ty.int IntKind.i64)) (Sh.ty Ty.unit)))
def qfB (x:qc qfH):PO (Sh.den qhM) :=
 (.ite (qbb x != 0)
  (.ret (([],qbb x,())))
  (.ret (([(0,x.2,false,()),(536936448,x.1.1,true,()),(537001984,x.1.2.1,true,()),(537133056,x.1.2.2.1,true,()),(537395200,x.1.2.2.1,true,()),(537919488,4,true,()),(538968064,4,true,())],0,()))))
def qlx (_:qc qfH):Bool:=true
def qch (x:qc qfH):Sh.den qhM:=(qfB x).qQ default
theorem qtW (x:qc qfH) (_:qlx x=true):(qfB x).val=some (qch x):=PO.qbS default (by simp[qfB,PO.sure])
def qiD:LoopN where
 M:=[0,1,2,3,8,9,10]
 T:=[21,22,23,24,25,26,27,28,29,30,31,32,33,34,35,36,37,38,39,40,41,42,43,44,45,46,47,48,49,50,51,52,53,54,55,56,57,58,59,60,61,62,63,64,65,66,67,68,69]
 D:=[0,1,2,3,10]
 ss:=[.ty (.sl qM),.ty (.int .i64),.ty (.int .i64),.ty .bool,.ty (.int .i64),.ty (.int .i64),.ty (.int .i64)]
 hs:=[]
 es:=[.exit 0,.ret]
 σ:=(Ty.den (.int .i64))×(Ty.den (.int .i64))×(Ty.den (.int .i64))
 x0:=fun x _=>(x.2.2.2.2.1,x.2.2.2.2.2.1,x.2.2.2.2.2.2)
 put:=fun x _ s=>((x.1,x.2.1,x.2.2.1,x.2.2.2.1,s.1,s.2.1,s.2.2),())
 fuel:=fun x _=>List.length x.1+1
 turn:=fun x _ s =>
 (.ite (decide (s.2.2<qh x.1))
  (.ite (inRange s.2.2 (List.length x.1)&&bif decide (x.2.1≥(List.getD x.1 (Int.toNat s.2.2) (Ty.dflt qM)).1) then inRange s.2.2 (List.length x.1)&&bif decide ((List.getD x.1 (Int.toNat s.2.2) (Ty.dflt qM)).2.1≥x.2.2.1) then inRange s.2.2 (List.length x.1)&&inRange s.2.2 (List.length x.1) else true else true)
  (.ite (decide (x.2.1≥(List.getD x.1 (Int.toNat s.2.2) (Ty.dflt qM)).1)&&(decide ((List.getD x.1 (Int.toNat s.2.2) (Ty.dflt qM)).2.1≥x.2.2.1)&&decide (w64 (x.2.1-(List.getD x.1 (Int.toNat s.2.2) (Ty.dflt qM)).1)≤w64 ((List.getD x.1 (Int.toNat s.2.2) (Ty.dflt qM)).2.1-x.2.2.1))))
   (.ite (bif x.2.2.2.1 then inRange s.2.2 (List.length x.1) else true)
   (.ite (x.2.2.2.1&&!(List.getD x.1 (Int.toNat s.2.2) (Ty.dflt qM)).2.2.1)
    (.ret (.out 1 (0,8,s.2.2)))
    (.ret (.out 1 (s.2.2,0,s.2.2))))
   .fail)
   (.ret (.on (s.1,s.2.1,w64 (s.2.2+1)))))
  .fail)
  (.ret (.out 0 (s.1,s.2.1,s.2.2))))
abbrev qhw:List Ty:=[(.sl qM),(.int .i64),(.int .i64),.bool]
abbrev qjZ:Sh:=Sh.tup (Sh.pair (Sh.ty (Ty.int IntKind.i64)) (Sh.pair (Sh.ty (Ty.int IntKind.i64)) (Sh.ty Ty.unit)))
def qno (x:qc qhw):PO (Sh.den qjZ) :=
 (.ite (x.2.2.1 != 1&&x.2.2.1 != 4)
  (.ret ((0,2,())))
  (.ite (!x.2.2.1==0)
  (.ite (Int.tmod x.2.1 x.2.2.1 != 0)
   (.ret ((0,8,())))
   (.opt (LoopN.res qiD (x.1,x.2.1,x.2.2.1,x.2.2.2,0,0,0) ()) fun p0 =>
   (.ite (way p0.1)
    (.ret ((0,8,())))
    (.ret ((p0.2.1,p0.2.2.1,()))))))
  .fail))
def qj5 (x:qc qhw):Bool:=decide (qql x.1∧(show Int from x.2.1)<9223372036854775808)
def qj3 (x:qc qhw):Sh.den qjZ:=qfI x.1 x.2.1 x.2.2.1 x.2.2.2
theorem qzR (l:List (Int×Int×Bool×Unit)) (a n:Int) (w:Bool) (hl:l.length<4611686018427387904) (hr:∀r∈l,qrP r) (hn:0≤n) (ha:a<9223372036854775808) :
  ∀(k i:Nat),i+k=l.length→∃p,qcF (qiD.turn (l,a,n,w,0,0,0) ()) (k+1) ((0:Int),(0:Int),(i:Int))=some p ∧
   (bif way p.1 then((0:Int),(8:Int),()) else(p.2.1,p.2.2.1,()))=match qiK a n w (l.drop i) with
   |some j=>(((i+j:Nat):Int),(0:Int),())
   |none=>((0:Int),(8:Int),())
 |0,i,hi=>by
  rw[List.drop_of_length_le (by omega)]
  exact⟨_,qbg (c:=0) (s':=((0:Int),(0:Int),(i:Int))) (qv (qW (by show ¬((i:Int)<((l.length:Nat):Int));omega))),rfl⟩
 |k+1,i,hi=>by
  have hlt:i<l.length:=by omega
  have hd:l.drop i=l[i]::l.drop (i+1):=List.drop_eq_getElem_cons hlt
  have hg:List.getD l (Int.toNat (i:Int)) (Ty.dflt qM)=l[i]:=by rw[Int.toNat_natCast];exact qgY l _ hlt
  have he:=has_eq l[i] a n (hr _ (List.getElem_mem hlt)) hn ha
  have hT:(decide (a≥(l[i]).1)&&(decide ((l[i]).2.1≥n)&&decide (w64 (a-(l[i]).1)≤w64 ((l[i]).2.1-n))))=hasB l[i] a n:=he
  have hin:inRange (i:Int) (List.length l)=true:=inR hlt
  have g1:(inRange (i:Int) (List.length l)&&bif decide (a≥(List.getD l (Int.toNat (i:Int)) (Ty.dflt qM)).1) then inRange (i:Int) (List.length l)&&bif decide ((List.getD l (Int.toNat (i:Int)) (Ty.dflt qM)).2.1≥n) then inRange (i:Int) (List.length l)&&inRange (i:Int) (List.length l) else true else true)=true:=by
   rw[hin]
   cases decide (a≥(List.getD l (Int.toNat (i:Int)) (Ty.dflt qM)).1)<;>cases decide ((List.getD l (Int.toNat (i:Int)) (Ty.dflt qM)).2.1≥n)<;>rfl
  have g2:(bif w then inRange (i:Int) (List.length l) else true)=true:=by rw[hin];cases w<;>rfl
  rw[hd]
  cases hh:hasB l[i] a n with
  |false =>
   obtain⟨p,h1,h2⟩:=qzR l a n w hl hr hn ha k (i+1) (by omega)
   refine⟨p,(qcx (s':=((0:Int),(0:Int),((i+1:Nat):Int))) ((qe (qK (by show((i:Int)<((l.length:Nat):Int));omega))).trans ((qe g1).trans ((qv ?_).trans ?_)))).trans h1,?_⟩
   ·show(decide (a≥(List.getD l (Int.toNat (i:Int)) (Ty.dflt qM)).1)&&(decide ((List.getD l (Int.toNat (i:Int)) (Ty.dflt qM)).2.1≥n)&&decide (w64 (a-(List.getD l (Int.toNat (i:Int)) (Ty.dflt qM)).1)≤w64 ((List.getD l (Int.toNat (i:Int)) (Ty.dflt qM)).2.1-n))))=false
    rw[hg,hT,hh]
   ·show some (TL.on ((0:Int),(0:Int),w64 ((i:Int)+1)))=_
    rw[qt (by omega) (by omega)]
    rfl
   ·rw[h2]
    simp only[qiK,hh,cond_false]
    cases qiK a n w (l.drop (i+1)) with
    |none=>rfl
    |some j =>
     show(((i+1+j:Nat):Int),(0:Int),())=(((i+(j+1):Nat):Int),(0:Int),())
     rw[show i+1+j=i+(j+1) by omega]
  |true =>
   simp only[qiK,hh,cond_true]
   have k0:(decide (a≥(List.getD l (Int.toNat (i:Int)) (Ty.dflt qM)).1)&&(decide ((List.getD l (Int.toNat (i:Int)) (Ty.dflt qM)).2.1≥n)&&decide (w64 (a-(List.getD l (Int.toNat (i:Int)) (Ty.dflt qM)).1)≤w64 ((List.getD l (Int.toNat (i:Int)) (Ty.dflt qM)).2.1-n))))=true:=by
    rw[hg,hT,hh]
   cases hw:(w&&!(l[i]).2.2.1) with
   |true =>
    refine⟨(1,(0,8,(i:Int))),qbg ((qe (qK (by show((i:Int)<((l.length:Nat):Int));omega))).trans ((qe g1).trans ((qe k0).trans ((qe g2).trans ((qe ?_).trans rfl))))),rfl⟩
    show(w&&!(List.getD l (Int.toNat (i:Int)) (Ty.dflt qM)).2.2.1)=true
    rw[hg,hw]
   |false =>
    refine⟨(1,((i:Int),0,(i:Int))),qbg ((qe (qK (by show((i:Int)<((l.length:Nat):Int));omega))).trans ((qe g1).trans ((qe k0).trans ((qe g2).trans ((qv ?_).trans rfl))))),rfl⟩
    show(w&&!(List.getD l (Int.toNat (i:Int)) (Ty.dflt qM)).2.2.1)=false
    rw[hg,hw]
theorem qv8 (x:qc qhw) (h:qj5 x=true):(qno x).val=some (qj3 x):=by
 obtain⟨l,a,n,w⟩:=x
 obtain⟨⟨hl,hr⟩,ha⟩:=of_decide_eq_true h
 unfold qno
 show _=some (qfI l a n w)
 unfold qfI
 cases c1:(n != 1&&n != 4) with
 |true=>exact(qe rfl).trans rfl
 |false =>
  refine(qv rfl).trans ?_
  have hn:n=1∨n=4:=by simpa only[Bool.and_eq_false_iff,bne_eq_false_iff_eq] using c1
  have hn0:(!n==(0:Int))=true:=by rcases hn with rfl |rfl<;>rfl
  refine(qe hn0).trans ?_
  show(PO.ite (Int.tmod a n != 0) _ _).val=_
  cases c2:(Int.tmod a n != 0) with
  |true=>exact(qe rfl).trans rfl
  |false =>
   refine(qv rfl).trans ?_
   obtain⟨p,h1,h2⟩:=qzR l a n w hl hr (by rcases hn with rfl |rfl<;>decide) ha l.length 0 (by omega)
   refine(qdl (r:=p) h1).trans ?_
   rw[List.drop_zero] at h2
   cases hp:way p.1 with
   |true =>
    rw[hp] at h2
    refine(qe rfl).trans ?_
    cases hf:qiK a n w l with
    |none=>rfl
    |some j =>
     rw[hf] at h2
     exact absurd (congrArg (fun q:Int×Int×Unit=>q.2.1) h2) (by show ¬(8:Int)=0;decide)
   |false =>
    rw[hp] at h2
    refine(qv rfl).trans (congrArg some (h2.trans ?_))
    cases qiK a n w l with
    |none=>rfl
    |some j=>simp
abbrev qhq:List Ty:=[qb0,(.int .i64),(.int .i64),.bool]
abbrev qj9:Sh:=Sh.ty (Ty.int IntKind.i64)
def qnl (x:qc qhq):PO (Sh.den qj9) :=
 (.ite (qj5 ((qch (x.1.1,qh x.1.2.1)).1,x.2))
  (.ret ((qj3 ((qch (x.1.1,qh x.1.2.1)).1,x.2)).2.1))
  .fail)
instance (l:List qbx.den):Decidable (∀x∈l,0≤(show Int from x.2.1)∧(show Int from x.2.1)<4611686018427387904):=inferInstance
abbrev rgX (s:qb0.den):List (Int×Int×Bool×Unit):=qd7 s.1 (qh s.2.1)
def qqB (s:qb0.den):Prop:=qbb (s.1,qh s.2.1)=(0:Int)∧qql (rgX s)∧List.length s.2.1<4611686018427387904∧List.length s.2.2.1<4611686018427387904
instance (s:qb0.den):Decidable (qqB s):=by
 unfold qqB
 have:Decidable (qbb (s.1,qh s.2.1)=(0:Int)):=inferInstanceAs (Decidable ((show Int from qbb (s.1,qh s.2.1))=0))
 infer_instance
theorem qzu {s:qb0.den} (h:qqB s):qch (s.1,qh s.2.1)=(rgX s,0,()):=by
 unfold qch PO.qQ qfB
 rw[qv (by rw[h.1];rfl)]
 rfl
def qdg (x:qc qhq):Bool:=decide (qqB x.1∧(show Int from x.2.1)<9223372036854775808)
def qcN (x:qc qhq):Sh.den qj9:=(qfI (rgX x.1) x.2.1 x.2.2.1 x.2.2.2).2.1
theorem qv3 (x:qc qhq) (h:qdg x=true):(qnl x).val=some (qcN x):=by
 obtain⟨h1,h2⟩:=of_decide_eq_true h
 unfold qnl
 rw[qzu h1]
 exact(qe (decide_eq_true ⟨h1.2.1,h2⟩)).trans rfl
def qd1:LoopN where
 M:=[1,2,3,6,7]
 T:=[8,12,13,14,15,16,17,18,19,20,21,22,23,24,25,26,27,28,29,30,31,32,33,34,35,36,37,38,39,40,41,42,43,44,45,46,47,48,49,50,51,52,53,54,55]
 D:=[1,7]
 ss:=[.ty (.sl qbx),.ty (.int .i64),.box 0 0,.ty (.int .i64),.ty (.int .i64)]
 hs:=[.ty qb0]
 es:=[.exit 0,.ret]
 σ:=(Ty.den (.int .i64))×(Ty.den (.int .i64))×(Sh.den (.ty qb0))
 x0:=fun x y=>(x.2.2.2.1,x.2.2.2.2,y)
 put:=fun x _ s=>((x.1,x.2.1,x.2.2.1,s.1,s.2.1),s.2.2)
 fuel:=fun x _=>List.length x.1+1
 turn:=fun x _ s =>
 (.ite (decide (s.2.1≥0))
  (.ite (inRange s.2.1 (List.length x.1))
  (.ite (bif (List.getD x.1 (Int.toNat s.2.1) (Ty.dflt qbx)).1 != 0 then bif decide (x.2.1≥(List.getD x.1 (Int.toNat s.2.1) (Ty.dflt qbx)).2.1) then bif decide (w64 (x.2.1-(List.getD x.1 (Int.toNat s.2.1) (Ty.dflt qbx)).2.1)<(List.getD x.1 (Int.toNat s.2.1) (Ty.dflt qbx)).2.2.1) then qdg (s.2.2,(List.getD x.1 (Int.toNat s.2.1) (Ty.dflt qbx)).2.1,(List.getD x.1 (Int.toNat s.2.1) (Ty.dflt qbx)).2.2.1,true) else true else true else true)
   (.ite ((List.getD x.1 (Int.toNat s.2.1) (Ty.dflt qbx)).1 != 0&&(decide (x.2.1≥(List.getD x.1 (Int.toNat s.2.1) (Ty.dflt qbx)).2.1)&&(decide (w64 (x.2.1-(List.getD x.1 (Int.toNat s.2.1) (Ty.dflt qbx)).2.1)<(List.getD x.1 (Int.toNat s.2.1) (Ty.dflt qbx)).2.2.1)&&qcN (s.2.2,(List.getD x.1 (Int.toNat s.2.1) (Ty.dflt qbx)).2.1,(List.getD x.1 (Int.toNat s.2.1) (Ty.dflt qbx)).2.2.1,true)==0)))
   (.ite (inRange (w64 (x.2.1-(List.getD x.1 (Int.toNat s.2.1) (Ty.dflt qbx)).2.1)) (List.length (qb5 (List.getD x.1 (Int.toNat s.2.1) (Ty.dflt qbx)).2.2.2.1)))
    (.ret (.out 1 (w64 (u8I (List.getD (qb5 (List.getD x.1 (Int.toNat s.2.1) (Ty.dflt qbx)).2.2.2.1) (Int.toNat (w64 (x.2.1-(List.getD x.1 (Int.toNat s.2.1) (Ty.dflt qbx)).2.1))) 0)),s.2.1,s.2.2)))
    .fail)
   (.ret (.on (s.1,w64 (s.2.1-1),s.2.2))))
   .fail)
  .fail)
  (.ret (.out 0 (s.1,s.2.1,s.2.2))))
abbrev qfO:List Ty:=[qb0,(.sl qbx),(.int .i64)]
abbrev qiO:Sh:=Sh.ty (Ty.int IntKind.i64)
def qiA (x:qc qfO):PO (Sh.den qiO) :=
 (.opt (LoopN.res qd1 (x.2.1,x.2.2,(),0,w64 (qh x.2.1-1)) x.1) fun p0 =>
  (.ite (way p0.1)
  (.ite (decide (x.2.2<qh p0.2.2.2.2.1))
   (.ite (inRange x.2.2 (List.length p0.2.2.2.2.1))
   (.ret (w64 (u8I (List.getD p0.2.2.2.2.1 (Int.toNat x.2.2) 0))))
   .fail)
   (.ite (decide (x.2.2≥536936448)&&decide (x.2.2<w64 (536936448+qh p0.2.2.2.2.2.1)))
   (.ite (inRange (w64 (x.2.2-536936448)) (List.length p0.2.2.2.2.2.1))
    (.ret (w64 (u8I (List.getD p0.2.2.2.2.2.1 (Int.toNat (w64 (x.2.2-536936448))) 0))))
    .fail)
   (.ret (0))))
  (.ret (p0.2.1))))
def qir (l:List qbx.den):Prop:=l.length<4611686018427387904∧∀x∈l,0≤(show Int from x.2.1)∧(show Int from x.2.1)<4611686018427387904
instance (l:List qbx.den):Decidable (qir l):=by
 unfold qir
 have:Decidable (∀x∈l,0≤(show Int from x.2.1)∧(show Int from x.2.1)<4611686018427387904):=List.decidableBAll _ l
 infer_instance
def qv0 (s:qb0.den) (a:Int) (x:qbx.den):Bool:=x.1 != 0&&(decide (a≥x.2.1)&&(decide (a-x.2.1<x.2.2.1)&&(qfI (rgX s) x.2.1 x.2.2.1 true).2.1==0))
def qnx (s:qb0.den) (a:Int) (l:List qbx.den):Nat→Option Int
 |0=>none
 |i+1=>bif qv0 s a (l.getD i (Ty.dflt qbx)) then some (List.getD (qhY (l.getD i (Ty.dflt qbx)).2.2.2.1) (a-(l.getD i (Ty.dflt qbx)).2.1).toNat 0) else qnx s a l i
def qAf (s:qb0.den) (a:Int):Int :=
 bif decide (a<qh s.2.1) then u8I (List.getD s.2.1 a.toNat 0)
 else bif decide (a≥536936448)&&decide (a<536936448+qh s.2.2.1) then u8I (List.getD s.2.2.1 (a-536936448).toNat 0) else 0
def qdu (s:qb0.den) (l:List qbx.den) (a:Int):Int :=
 match qnx s a l l.length with
 |some b=>b
 |none=>qAf s a
theorem ql9 (b:UInt8):w64 (u8I b)=u8I b:=by
 have:=b.toNat_lt
 exact qt (by show(-9223372036854775808:Int)≤((b.toNat:Nat):Int);omega) (by show((b.toNat:Nat):Int)<(9223372036854775808:Int);omega)
theorem qDk {l:List (Int×Int×Bool×Unit)} {a n:Int} {w:Bool} (h:((qfI l a n w).2.1==(0:Int))=true):n=1∨n=4:=by
 rcases qm7 l a n w with⟨e,he,h2⟩ |⟨j,_,hn,_,_⟩
 ·rw[h2] at h
  exact absurd (by simpa using h) he
 ·exact hn
theorem qqH (l:List UInt8) (i:Nat):u8I (List.getD l i 0)=List.getD (qej l) i 0:=by
 unfold qej
 rw[List.getD_eq_getElem?_getD,List.getD_eq_getElem?_getD,List.getElem?_map]
 cases l[i]?<;>rfl
theorem qJy (s:qb0.den) (hs:qqB s) (l:List qbx.den) (hl:qir l) (a:Int) (ha:0≤a∧a<4611686018427387904) (i0 r0:Int):∀(n:Nat),n≤l.length →
  ∃p,qcF (qd1.turn (l,a,(),r0,i0) s) (n+1) (r0,(n:Int)-1,s)=some p∧p.2.2.2=s ∧
   match qnx s a l n with
   |some b=>way p.1=false∧p.2.1=b
   |none=>way p.1=true
 |0,_=>⟨_,qbg (c:=0) ((qv (qW (by show ¬(((0:Nat):Int)-1≥0);decide))).trans rfl),rfl,rfl⟩
 |n+1,hn=>by
  have hi:n<l.length:=by omega
  have e1:((n+1:Nat):Int)-1=(n:Int):=by omega
  rw[e1]
  have hg:List.getD l (Int.toNat (n:Int)) (Ty.dflt qbx)=l.getD n (Ty.dflt qbx):=by rw[Int.toNat_natCast]
  have hmem:l.getD n (Ty.dflt qbx)∈l:=by
   rw[List.getD_eq_getElem?_getD,List.getElem?_eq_getElem hi]
   exact List.getElem_mem hi
  obtain⟨xb1,xb2⟩:=hl.2 _ hmem
  have hlt:decide ((n:Int)≥0)=true:=qK (by omega)
  generalize hx:l.getD n (Ty.dflt qbx)=x at *
  have hw:w64 (a-x.2.1)=a-x.2.1:=qt (by show(-9223372036854775808:Int)≤a-(show Int from x.2.1);omega) (by show a-(show Int from x.2.1)<(9223372036854775808:Int);omega)
  have hGf:qdg (s,x.2.1,x.2.2.1,true)=true:=decide_eq_true ⟨hs,by show(show Int from x.2.1)<(9223372036854775808:Int);omega⟩
  have g1:(bif x.1 != (0:Int) then bif decide (a≥x.2.1) then bif decide (w64 (a-x.2.1)<x.2.2.1) then qdg (s,x.2.1,x.2.2.1,true) else true else true else true)=true:=by
   rw[hGf]
   cases (x.1 != (0:Int))<;>cases decide (a≥x.2.1)<;>cases decide (w64 (a-x.2.1)<x.2.2.1)<;>rfl
  have hc:(x.1 != (0:Int)&&(decide (a≥x.2.1)&&(decide (w64 (a-x.2.1)<x.2.2.1)&&qcN (s,x.2.1,x.2.2.1,true)==0)))=qv0 s a x:=by
   rw[hw]
   rfl
  cases hcv:qv0 s a x with
  |true =>
   have hcv':=hcv
   unfold qv0 at hcv'
   simp only[Bool.and_eq_true,decide_eq_true_eq] at hcv'
   obtain⟨_,q1,q2,q3⟩:=hcv'
   have q1:(show Int from x.2.1)≤a:=q1
   have q2:a-(show Int from x.2.1)<(show Int from x.2.2.1):=q2
   have hn4:(show Int from x.2.2.1)≤4:=by rcases qDk q3 with h |h<;>rw[show(show Int from x.2.2.1)=_ from h]<;>decide
   have hin:inRange (w64 (a-x.2.1)) (List.length (qb5 x.2.2.2.1))=true:=by
    rw[hw]
    have:List.length (qb5 x.2.2.2.1)=4:=by
     show List.length (qcP x.2.2.2.1)=4
     rw[qxm]
     rfl
    rw[this]
    simp only[inRange,Bool.and_eq_true,decide_eq_true_eq]
    constructor
    ·show(0:Int)≤a-(show Int from x.2.1);omega
    ·show a-(show Int from x.2.1)<((4:Nat):Int);omega
   refine⟨(1,(w64 (u8I (List.getD (qb5 x.2.2.2.1) (Int.toNat (w64 (a-x.2.1))) 0)),(n:Int),s)),qbg ((qe hlt).trans ((qe (inR hi)).trans ((qe (by rw[hg];exact g1)).trans ((qe (by rw[hg];exact hc.trans hcv)).trans ((qe (by rw[hg];exact hin)).trans ?_))))),rfl,?_⟩
   ·rw[hg]
    rfl
   ·rw[qnx,hx,hcv]
    refine⟨rfl,?_⟩
    show w64 (u8I (List.getD (qcP x.2.2.2.1) (Int.toNat (w64 (a-x.2.1))) 0))=List.getD (qhY x.2.2.2.1) (a-x.2.1).toNat 0
    rw[ql9,hw,qqH]
    rfl
  |false =>
   obtain⟨p,h1,h2,h3⟩:=qJy s hs l hl a ha i0 r0 n (by omega)
   have ht:(qd1.turn (l,a,(),r0,i0) s (r0,(n:Int),s)).val=some (TL.on (r0,(n:Int)-1,s)):=by
    refine(qe hlt).trans ?_
    refine(qe (inR hi)).trans ?_
    refine(qe (by rw[hg];exact g1)).trans ?_
    refine(qv (by rw[hg];exact hc.trans hcv)).trans ?_
    show some (TL.on (r0,w64 ((n:Int)-1),s))=_
    rw[qt (by omega) (by have:=hl.1;omega)]
   refine⟨p,(qcx ht).trans h1,h2,?_⟩
   ·rw[qnx,hx,hcv]
    exact h3
def qdK (x:qc qfO):Bool:=decide (qqB x.1∧qir x.2.1∧0≤(show Int from x.2.2)∧(show Int from x.2.2)<4611686018427387904)
def qey (x:qc qfO):Sh.den qiO:=qdu x.1 x.2.1 x.2.2
theorem qLf (s:qb0.den) (l:List qbx.den) (a:Int) (h1:qqB s) (h2:qir l) (h3:0≤a) (h4:a<4611686018427387904):(qiA (s,l,a)).val=some (qdu s l a):=by
 unfold qiA
 obtain⟨p,e1,e2,e3⟩:=qJy s h1 l h2 a ⟨h3,h4⟩ (w64 (qh l-1)) 0 l.length (Nat.le_refl _)
 have hlen:=h2.1
 have hw:w64 (qh l-1)=(l.length:Int)-1:=qt (by simp only[qh];omega) (by simp only[qh];omega)
 refine(qdl (r:=p) (by
  unfold LoopN.res
  refine Eq.trans ?_ e1
  show qcF (qd1.turn (l,a,(),0,w64 (qh l-1)) s) (List.length l+1) (0,w64 (qh l-1),s)=_
  rw[hw])).trans ?_
 unfold qdu
 cases hl:qnx s a l l.length with
 |some b =>
  rw[hl] at e3
  exact(qv e3.1).trans (congrArg some e3.2)
 |none =>
  rw[hl] at e3
  refine(qe e3).trans ?_
  rw[e2]
  unfold qAf
  obtain⟨_,_,s3,s4⟩:=h1
  cases c1:decide (a<qh s.2.1) with
  |true =>
   refine(qe rfl).trans ((qe ?_).trans ?_)
   ·have:a<qh s.2.1:=of_decide_eq_true c1
    simp only[qh] at this
    simp only[inRange,Bool.and_eq_true,decide_eq_true_eq]
    exact⟨h3,this⟩
   ·show some (w64 (u8I (List.getD s.2.1 (Int.toNat a) 0)))=_
    rw[ql9]
    rfl
  |false =>
   refine(qv rfl).trans ?_
   have w1:w64 (536936448+qh s.2.2.1)=536936448+qh s.2.2.1:=by simp only[qh];exact qt (by omega) (by omega)
   show(PO.ite (decide (a≥536936448)&&decide (a<w64 (536936448+qh s.2.2.1))) _ _).val=_
   rw[w1]
   cases c2:(decide (a≥536936448)&&decide (a<536936448+qh s.2.2.1)) with
   |true =>
    simp only[Bool.and_eq_true,decide_eq_true_eq,qh] at c2
    have c3:(536936448:Int)≤a:=c2.1
    have c4:a<(536936448:Int)+((List.length s.2.2.1:Nat):Int):=c2.2
    have w2:w64 (a-536936448)=a-536936448:=qt (by omega) (by omega)
    refine(qe rfl).trans ((qe ?_).trans ?_)
    ·rw[w2]
     simp only[inRange,Bool.and_eq_true,decide_eq_true_eq]
     exact⟨by omega,by omega⟩
    ·show some (w64 (u8I (List.getD s.2.2.1 (Int.toNat (w64 (a-536936448))) 0)))=_
     rw[ql9,w2]
     rfl
   |false=>exact(qv rfl).trans rfl
theorem qum (x:qc qfO) (h:qdK x=true):(qiA x).val=some (qey x) :=
 have q:=of_decide_eq_true h
 qLf x.1 x.2.1 x.2.2 q.1 q.2.1 q.2.2.1 q.2.2.2
def qfV:LoopN where
 M:=[1,2,4,11,12]
 T:=[22,23,24,25,26,27,28,29,30,31,32,33,34]
 D:=[1,2,4,12]
 ss:=[.ty (.sl qbx),.ty (.int .i64),.box 0 0,.ty (.int .i64),.ty (.int .i64)]
 hs:=[.ty qb0]
 es:=[.exit 0]
 σ:=(Ty.den (.int .i64))×(Ty.den (.int .i64))×(Sh.den (.ty qb0))
 x0:=fun x y=>(x.2.2.2.1,x.2.2.2.2,y)
 put:=fun x _ s=>((x.1,x.2.1,x.2.2.1,s.1,s.2.1),s.2.2)
 fuel:=fun _ _=>5
 turn:=fun x _ s =>
 (.ite (decide (s.2.1≥0))
  (.ite (qdK (s.2.2,x.1,w64 (x.2.1+s.2.1)))
  (.ret (.on (w64 (w64 (256*s.1)+qey (s.2.2,x.1,w64 (x.2.1+s.2.1))),w64 (s.2.1-1),s.2.2)))
  .fail)
  (.ret (.out 0 (s.1,s.2.1,s.2.2))))
abbrev qht:List Ty:=[qb0,(.sl qbx),(.int .i64),(.int .i64)]
abbrev qjY:Sh:=Sh.tup (Sh.pair (Sh.ty (Ty.int IntKind.i64)) (Sh.pair (Sh.ty (Ty.int IntKind.i64)) (Sh.ty Ty.unit)))
def qka (x:qc qht):PO (Sh.den qjY) :=
 (.ite (qdg (x.1,x.2.2.1,x.2.2.2,false))
  (.ite (qcN (x.1,x.2.2.1,x.2.2.2,false) != 0)
  (.ret ((0,qcN (x.1,x.2.2.1,x.2.2.2,false),())))
  (.opt (LoopN.res qfV (x.2.1,x.2.2.1,(),0,w64 (x.2.2.2-1)) x.1) fun p0 =>
   (.ret ((p0.2.1,0,())))))
  .fail)
theorem qol (b:UInt8):0≤u8I b∧u8I b<256:=by
 have:=b.toNat_lt
 constructor
 ·show(0:Int)≤((b.toNat:Nat):Int);omega
 ·show((b.toNat:Nat):Int)<256;omega
theorem qq8 (s:qb0.den) (l:List qbx.den) (a:Int):0≤qdu s l a∧qdu s l a<256:=by
 have hl:∀n b,qnx s a l n=some b→0≤b∧b<256:=by
  intro n
  induction n with
  |zero=>intro b h;cases h
  |succ n ih =>
   intro b h
   rw[qnx] at h
   cases hc:qv0 s a (l.getD n (Ty.dflt qbx)) with
   |true =>
    rw[hc] at h
    cases h
    rw[show qhY (l.getD n (Ty.dflt qbx)).2.2.2.1=qej (qcP (l.getD n (Ty.dflt qbx)).2.2.2.1) from rfl,←qqH]
    exact qol _
   |false =>
    rw[hc] at h
    exact ih b h
 unfold qdu
 cases h:qnx s a l l.length with
 |some b=>exact hl _ b h
 |none =>
  unfold qAf
  cases decide (a<qh s.2.1)
  ·cases (decide (a≥536936448)&&decide (a<536936448+qh s.2.2.1))
   ·exact⟨Int.le_refl 0,(by decide:(0:Int)<256)⟩
   ·exact qol _
  ·exact qol _
theorem qMZ (s:qb0.den) (hs:qqB s) (l:List qbx.den) (hl:qir l) (a:Int) (ha:0≤a∧a<2305843009213693952) (r0 i0 v i:Int) (hv:0≤v∧v<1099511627776) (hi:0≤i∧i≤3) :
  (qfV.turn (l,a,(),r0,i0) s (v,i,s)).val=some (TL.on (256*v+qdu s l (a+i),i-1,s)):=by
 have hb:=qq8 s l (a+i)
 have hw:w64 (a+i)=a+i:=qt (by omega) (by omega)
 refine(qe (qK (show i≥0 by omega))).trans ?_
 refine(qe ?_).trans ?_
 ·show qdK (s,l,w64 (a+i))=true
  rw[hw]
  exact decide_eq_true ⟨hs,hl,by show(0:Int)≤a+i;omega,by show a+i<(4611686018427387904:Int);omega⟩
 ·show some (TL.on (w64 (w64 (256*v)+qdu s l (w64 (a+i))),w64 (i-1),s))=_
  rw[hw,qt (n:=256*v) (by omega) (by omega),qt (n:=256*v+qdu s l (a+i)) (by omega) (by omega),qt (n:=i-1) (by omega) (by omega)]
theorem qIE (s:qb0.den) (l:List qbx.den) (a r0 i0 v:Int):(qfV.turn (l,a,(),r0,i0) s (v,-1,s)).val=some (TL.out 0 (v,-1,s)) :=
 (qv (qW (by show ¬(-1:Int)≥0;decide))).trans rfl
def qjX (s:qb0.den) (l:List qbx.den) (a:Int) (n:Nat):List Int:=(List.range n).map fun(i:Nat)=>qdu s l (a+(i:Int))
def qdf (x:qc qht):Bool:=decide (qqB x.1∧qir x.2.1∧0≤(show Int from x.2.2.1)∧(show Int from x.2.2.1)<2305843009213693952)
def qzG (s:qb0.den) (l:List qbx.den) (a n:Int):Int×Int×Unit :=
 bif (qfI (rgX s) a n false).2.1 != 0 then(0,(qfI (rgX s) a n false).2.1,()) else(leV (qjX s l a n.toNat),0,())
def qbs (x:qc qht):Sh.den qjY:=qzG x.1 x.2.1 x.2.2.1 x.2.2.2
theorem qN3 (s:qb0.den) (l:List qbx.den) (a n:Int) (h1:qqB s) (h2:qir l) (h3:0≤a) (h4:a<2305843009213693952):(qka (s,l,a,n)).val=some (qzG s l a n):=by
 unfold qka qzG
 refine(qe (decide_eq_true ⟨h1,by show a<(9223372036854775808:Int);omega⟩)).trans ?_
 show(PO.ite ((qfI (rgX s) a n false).2.1 != (0:Int)) _ _).val=_
 cases hf:((qfI (rgX s) a n false).2.1 != (0:Int)) with
 |true=>exact(qe rfl).trans rfl
 |false =>
  refine(qv rfl).trans ?_
  have hn:n=1∨n=4:=qDk (l:=rgX s) (a:=a) (w:=false) (by simpa using hf)
  have b0:=qq8 s l (a+0)
  have b1:=qq8 s l (a+1)
  have b2:=qq8 s l (a+2)
  have b3:=qq8 s l (a+3)
  have st:=qMZ s h1 l h2 a ⟨h3,h4⟩ 0 (w64 (n-1))
  rcases hn with rfl |rfl
  ·refine(qdl (r:=(0,(256*0+qdu s l (a+0),-1,s))) ?_).trans ?_
   ·unfold LoopN.res
    exact(qcx (st 0 0 (by omega) (by omega))).trans (qbg (qIE s l a 0 _ _))
   ·show some (256*0+qdu s l (a+0),(0:Int),())=some (leV [qdu s l (a+((0:Nat):Int))],0,())
    unfold leV leV
    congr 2
    show _=qdu s l (a+0)+256*0
    omega
  ·refine(qdl (r:=(0,(256*(256*(256*(256*0+qdu s l (a+3))+qdu s l (a+2))+qdu s l (a+1))+qdu s l (a+0),-1,s))) ?_).trans ?_
   ·unfold LoopN.res
    exact(qcx (st 0 3 (by omega) (by omega))).trans ((qcx (st _ 2 (by omega) (by omega))).trans ((qcx (st _ 1 (by omega) (by omega))).trans ((qcx (st _ 0 (by omega) (by omega))).trans (qbg (qIE s l a 0 _ _)))))
   ·show some (256*(256*(256*(256*0+qdu s l (a+3))+qdu s l (a+2))+qdu s l (a+1))+qdu s l (a+0),(0:Int),())=some (leV [qdu s l (a+((0:Nat):Int)),qdu s l (a+((1:Nat):Int)),qdu s l (a+((2:Nat):Int)),qdu s l (a+((3:Nat):Int))],0,())
    unfold leV leV leV leV leV
    congr 2
    show _=qdu s l (a+0)+256*(qdu s l (a+1)+256*(qdu s l (a+2)+256*(qdu s l (a+3)+256*0)))
    omega
theorem qwf (x:qc qht) (h:qdf x=true):(qka x).val=some (qbs x) :=
 have q:=of_decide_eq_true h
 qN3 x.1 x.2.1 x.2.2.1 x.2.2.2 q.1 q.2.1 q.2.2.1 q.2.2.2
def qfg:LoopN where
 M:=[1,2,3,7,9,10]
 T:=[26,27,28,29,30,31,32,33,34,35,36,37,38,39,40,41,42,43,44,45,46,47,48]
 D:=[1,2,3,7,10]
 ss:=[.ty (.sl qbx),.ty (.int .i64),.box 0 0,.osl 0 qM,.osl 1 (.int .u8),.ty (.int .i64)]
 hs:=[.ty qb0]
 es:=[.exit 0]
 σ:=(Sh.den (.osl 1 (.int .u8)))×(Ty.den (.int .i64))×(Sh.den (.ty qb0))
 x0:=fun x y=>(x.2.2.2.2.1,x.2.2.2.2.2,y)
 put:=fun x _ s=>((x.1,x.2.1,x.2.2.1,x.2.2.2.1,s.1,s.2.1),s.2.2)
 fuel:=fun x _=>Int.toNat (List.getD x.2.2.2.1 (Int.toNat x.2.1) (Ty.dflt qM)).2.1+1
 turn:=fun x _ s =>
 (.ite (inRange x.2.1 (List.length x.2.2.2.1))
  (.ite (decide (s.2.1<(List.getD x.2.2.2.1 (Int.toNat x.2.1) (Ty.dflt qM)).2.1))
  (.ite (inRange x.2.1 (List.length x.2.2.2.1))
   (.ite (qdK (s.2.2,x.1,w64 ((List.getD x.2.2.2.1 (Int.toNat x.2.1) (Ty.dflt qM)).1+s.2.1)))
   (.ite (Nat.ble ((List.length s.1+List.length [IntKind.wrap IntKind.u8 (qey (s.2.2,x.1,w64 ((List.getD x.2.2.2.1 (Int.toNat x.2.1) (Ty.dflt qM)).1+s.2.1)))])*1) 140737488355328)
    (.ret (.on (s.1++[IntKind.wrap IntKind.u8 (qey (s.2.2,x.1,w64 ((List.getD x.2.2.2.1 (Int.toNat x.2.1) (Ty.dflt qM)).1+s.2.1)))],w64 (s.2.1+1),s.2.2)))
    .fail)
   .fail)
   .fail)
  (.ret (.out 0 (s.1,s.2.1,s.2.2))))
  .fail)
abbrev qf5:List Ty:=[qb0,(.sl qbx),(.int .i64)]
abbrev qiC:Sh:=Sh.ty Ty.str
def qiH (x:qc qf5):PO (Sh.den qiC) :=
 (.ite (inRange x.2.2 (List.length (qch (x.1.1,qh x.1.2.1)).1)&&qmb (List.getD (qch (x.1.1,qh x.1.2.1)).1 (Int.toNat x.2.2) (Ty.dflt qiJ)).2.1 1)
  (.opt (LoopN.res qfg (x.2.1,x.2.2,(),(qch (x.1.1,qh x.1.2.1)).1,[],0) x.1) fun p0 =>
  (.ret (List.map toByte p0.2.1)))
  .fail)
theorem qM2 {n:Int} (h:0≤n∧n<256):IntKind.u8.wrap n=n:=by
 rw[qqv]
 omega
theorem qza (s:qb0.den) (hs:qqB s) (l:List qbx.den) (hl:qir l) (k:Int) (rs:List (Int×Int×Bool×Unit)) (hk:inRange k rs.length=true) (r:Int×Int×Bool×Unit) (hr:List.getD rs (Int.toNat k) (Ty.dflt qM)=r) (hb:0≤r.1∧r.1<4294967296) (hn:0≤r.2.1∧r.2.1<4294967296) (o0:List Int) (j0:Int) :
  ∀(n i:Nat),(i:Int)+n=r.2.1→qcF (qfg.turn (l,k,(),rs,o0,j0) s) (n+1) (qjX s l r.1 i,(i:Int),s)=some (0,(qjX s l r.1 (i+n),((i+n:Nat):Int),s))
 |0,i,h=>by
  refine qbg (c:=0) ?_
  refine(qe hk).trans ?_
  refine(qv ?_).trans rfl
  show decide ((i:Int)<(List.getD rs (Int.toNat k) (Ty.dflt qM)).2.1)=false
  rw[hr]
  exact qW (by omega)
 |n+1,i,h=>by
  have hw:w64 (r.1+(i:Int))=r.1+(i:Int):=qt (by omega) (by omega)
  have hbb:=qq8 s l (r.1+(i:Int))
  have hlen:(qjX s l r.1 i).length=i:=by unfold qjX;rw[List.length_map,List.length_range]
  have ht:(qfg.turn (l,k,(),rs,o0,j0) s (qjX s l r.1 i,(i:Int),s)).val=some (TL.on (qjX s l r.1 (i+1),((i+1:Nat):Int),s)):=by
   refine(qe hk).trans ?_
   refine(qe ?_).trans ?_
   ·show decide ((i:Int)<(List.getD rs (Int.toNat k) (Ty.dflt qM)).2.1)=true
    rw[hr]
    exact qK (by omega)
   refine(qe hk).trans ?_
   refine(qe ?_).trans ?_
   ·show qdK (s,l,w64 ((List.getD rs (Int.toNat k) (Ty.dflt qM)).1+(i:Int)))=true
    rw[hr,hw]
    exact decide_eq_true ⟨hs,hl,by show(0:Int)≤r.1+(i:Int);omega,by show r.1+(i:Int)<(4611686018427387904:Int);omega⟩
   refine(qe ?_).trans ?_
   ·show Nat.ble (((qjX s l r.1 i).length+1)*1) 140737488355328=true
    rw[hlen]
    exact Nat.ble_eq_true_of_le (by omega)
   ·show some (TL.on (qjX s l r.1 i++[IntKind.wrap IntKind.u8 (qdu s l (w64 ((List.getD rs (Int.toNat k) (Ty.dflt qM)).1+(i:Int))))],w64 ((i:Int)+1),s))=_
    rw[hr,hw,qM2 hbb,qt (n:=(i:Int)+1) (by omega) (by omega)]
    unfold qjX
    rw[List.range_succ,List.map_append]
    rfl
  refine(qcx ht).trans ((qza s hs l hl k rs hk r hr hb hn o0 j0 n (i+1) (by omega)).trans ?_)
  rw[show i+1+n=i+(n+1) by omega]
def qdQ (x:qc qf5):Bool:=decide (qqB x.1∧qir x.2.1∧0≤(show Int from x.2.2)∧(show Int from x.2.2)<7∧∀r∈rgX x.1,0≤r.1∧r.1<4294967296∧0≤r.2.1∧r.2.1<4294967296)
def qva (s:qb0.den) (l:List qbx.den) (k:Int):List UInt8:=(qjX s l (List.getD (rgX s) k.toNat qbK).1 (List.getD (rgX s) k.toNat qbK).2.1.toNat).map toByte
def qcq (x:qc qf5):Sh.den qiC:=qva x.1 x.2.1 x.2.2
theorem qLd (s:qb0.den) (l:List qbx.den) (k:Int) (h1:qqB s) (h2:qir l) (h3:0≤k) (h4:k<7) (h5:∀r∈rgX s,0≤r.1∧r.1<4294967296∧0≤r.2.1∧r.2.1<4294967296):(qiH (s,l,k)).val=some (qva s l k):=by
 unfold qiH qva
 rw[qzu h1]
 have hlen:List.length (rgX s)=7:=rfl
 have hin:inRange k (List.length (rgX s))=true:=by
  rw[hlen]
  simp only[inRange,Bool.and_eq_true,decide_eq_true_eq]
  exact⟨h3,h4⟩
 have hi:k.toNat<(rgX s).length:=by rw[hlen];omega
 have hmem:List.getD (rgX s) k.toNat qbK∈rgX s:=by
  rw[List.getD_eq_getElem?_getD,List.getElem?_eq_getElem hi]
  exact List.getElem_mem hi
 have hd:List.getD (rgX s) (Int.toNat k) (Ty.dflt qM)=List.getD (rgX s) k.toNat qbK:=rfl
 obtain⟨q1,q2,q3,q4⟩:=h5 _ hmem
 generalize hr:List.getD (rgX s) k.toNat qbK=r at *
 refine(qe ?_).trans ?_
 ·show(inRange k (List.length (rgX s))&&qmb (List.getD (rgX s) (Int.toNat k) (Ty.dflt qM)).2.1 1)=true
  rw[hin,hd]
  simp only[qmb,Bool.true_and,Bool.and_eq_true,decide_eq_true_eq]
  exact⟨⟨q3,by omega⟩,by omega⟩
 ·refine(qdl (r:=(0,(qjX s l r.1 (0+r.2.1.toNat),((0+r.2.1.toNat:Nat):Int),s))) ?_).trans ?_
  ·unfold LoopN.res
   have:=qza s h1 l h2 k (rgX s) hin r hd ⟨q1,q2⟩ ⟨q3,q4⟩ [] 0 r.2.1.toNat 0 (by omega)
   refine Eq.trans ?_ this
   show qcF _ (Int.toNat (List.getD (rgX s) (Int.toNat k) (Ty.dflt qM)).2.1+1) ([],0,s)=_
   rw[hd]
   rfl
  ·rw[Nat.zero_add]
   rfl
theorem qur (x:qc qf5) (h:qdQ x=true):(qiH x).val=some (qcq x) :=
 have q:=of_decide_eq_true h
 qLd x.1 x.2.1 x.2.2 q.1 q.2.1 q.2.2.1 q.2.2.2.1 q.2.2.2.2
abbrev qh4:List Ty:=[qb0]
abbrev qkN:Sh:=Sh.ty (Ty.int IntKind.i64)
def qhV (x:qc qh4):PO (Sh.den qkN) :=
 (.ite (qbb (x.1,qh x.2.1)==0&&qh x.2.2.1 != x.1.1)
  (.ret (2))
  (.ret (qbb (x.1,qh x.2.1))))
def qnI (_:qc qh4):Bool:=true
def qeL (x:qc qh4):Sh.den qkN:=(qhV x).qQ default
theorem qwS (x:qc qh4) (_:qnI x=true):(qhV x).val=some (qeL x):=PO.qbS default (by simp[qhV,PO.sure])
abbrev qgT:List Ty:=[(.int .i64),(.int .i64)]
abbrev qjc:Sh:=Sh.ty Ty.bool
def qjh (x:qc qgT):PO (Sh.den qjc) :=
 (.ret (decide (x.1≥64)&&(decide (x.1<x.2)&&Int.tmod x.1 2==0)))
def qmC (_:qc qgT):Bool:=true
def qcE (x:qc qgT):Sh.den qjc:=(qjh x).qQ default
theorem qu5 (x:qc qgT) (_:qmC x=true):(qjh x).val=some (qcE x):=PO.qbS default (by simp[qjh,PO.sure])
def qjR (h:qcL.den):List Int:=[537133056,w64 (h.1+1),w64 (h.2.1+1),w64 (h.2.1+1),w64 (h.2.1+1),w64 (h.2.1+1),w64 (h.2.1+1),h.2.2.1.1,h.2.2.1.2.1,h.2.2.1.2.2.1,h.2.2.2.1,w64 (h.2.1+1),w64 (h.2.1+1),w64 (h.2.1+1),w64 (h.2.1+1),w64 (h.2.1+1)]
def qw3:List Int→List UInt8→PO (List UInt8)
 |[],t=>.ret t
 |v::l,t=>.ite (Nat.ble (List.length t+List.length (qb5 v)) 9223372036854775807) (qw3 l (t++qb5 v)) .fail
abbrev qgj:List Ty:=[qcL]
abbrev qjl:Sh:=Sh.ty Ty.str
def qgP (x:qc qgj):PO (Sh.den qjl):=qw3 (qjR x) []
def qd4 (x:qc qgj):Bool:=(qgP x).val.isSome
def qcV (x:qc qgj):Sh.den qjl:=(qgP x).qQ default
theorem qu0 (x:qc qgj) (h:qd4 x=true):(qgP x).val=some (qcV x):=PO.qb7 default h
abbrev qgl:List Ty:=[qcL,.str]
abbrev qjt:Sh:=Sh.tup (Sh.pair (Sh.ty Ty.str) (Sh.pair (Sh.ty (Ty.int IntKind.i64)) (Sh.ty Ty.unit)))
def qe6 (x:qc qgl):PO (Sh.den qjt) :=
 (.ite (qbb (x.1.2.2.1,w64 (64+qh x.2)) != 0)
  (.ret (([],qbb (x.1.2.2.1,w64 (64+qh x.2)),())))
  (.ite (decide (x.1.2.2.2.1<0)||(decide (x.1.2.2.2.1 > 2)||(!qcE (x.1.1,w64 (64+qh x.2))||true)))
  (.ite (decide (x.1.2.2.2.1<0)||(decide (x.1.2.2.2.1 > 2)||(!qcE (x.1.1,w64 (64+qh x.2))||!qcE (x.1.2.1,w64 (64+qh x.2)))))
   (.ret (([],2,())))
   (.ite (qd4 x.1&&Nat.ble (List.length (qcV x.1)+List.length x.2) 9223372036854775807)
   (.ret ((qcV x.1++x.2,0,())))
   .fail))
  .fail))
def qe4 (x:qc qgl):Bool:=(qe6 x).val.isSome
def qd6 (x:qc qgl):Sh.den qjt:=(qe6 x).qQ default
theorem qvm (x:qc qgl) (h:qe4 x=true):(qe6 x).val=some (qd6 x):=PO.qb7 default h
abbrev qi2:List Ty:=[.str,(.int .i64)]
abbrev qlF:Sh:=Sh.ty (Ty.int IntKind.i64)
def qgW (x:qc qi2):PO (Sh.den qlF) :=
 (.ite (decide (0≤w64 (w64 (4*x.2)+4))&&decide (w64 (w64 (4*x.2)+4)≤qh x.1)&&decide (0≤w64 (4*x.2))&&decide (w64 (4*x.2)≤w64 (w64 (4*x.2)+4))&&qfk (List.drop (Int.toNat (w64 (4*x.2))) (List.take (Int.toNat (w64 (w64 (4*x.2)+4))) x.1)))
  (.ret ((qg0 (List.drop (Int.toNat (w64 (4*x.2))) (List.take (Int.toNat (w64 (w64 (4*x.2)+4))) x.1))).1))
  .fail)
def qcR (x:qc qi2):Bool:=(qgW x).val.isSome
def qA (x:qc qi2):Sh.den qlF:=(qgW x).qQ default
theorem qxA (x:qc qi2) (h:qcR x=true):(qgW x).val=some (qA x):=PO.qb7 default h
abbrev qgQ:List Ty:=[.str]
abbrev qjd:Sh:=Sh.tup (Sh.pair (Sh.ty (Ty.pair (Ty.int IntKind.i64) (Ty.pair (Ty.int IntKind.i64) (Ty.pair qew (Ty.pair (Ty.int IntKind.i64) Ty.unit))))) (Sh.pair (Sh.ty (Ty.int IntKind.i64)) (Sh.ty Ty.unit)))
def qeZ (x:qc qgQ):PO (Sh.den qjd) :=
 (.ite (decide (qh x<64))
  (.ret (((0,0,(0,0,0,()),0,()),3,())))
  (.ite (qcR (x,1))
  (.ite (qcR (x,3))
   (.ite (qcR (x,7))
   (.ite (qcR (x,8))
    (.ite (qcR (x,9))
    (.ite (qcR (x,10))
     (.ite (decide (qh x≤qh x)&&true&&decide (64≤qh x)&&qe4 ((w64 (qA (x,1)-1),w64 (qA (x,3)-1),(qA (x,7),qA (x,8),qA (x,9),()),qA (x,10),()),List.drop (Int.toNat 64) (List.take (Int.toNat (qh x)) x)))
     (.ite ((qd6 ((w64 (qA (x,1)-1),w64 (qA (x,3)-1),(qA (x,7),qA (x,8),qA (x,9),()),qA (x,10),()),List.drop (Int.toNat 64) (List.take (Int.toNat (qh x)) x))).2.1 != 0||!(qd6 ((w64 (qA (x,1)-1),w64 (qA (x,3)-1),(qA (x,7),qA (x,8),qA (x,9),()),qA (x,10),()),List.drop (Int.toNat 64) (List.take (Int.toNat (qh x)) x))).1==x)
      (.ret (((0,0,(0,0,0,()),0,()),4,())))
      (.ret (((w64 (qA (x,1)-1),w64 (qA (x,3)-1),(qA (x,7),qA (x,8),qA (x,9),()),qA (x,10),()),0,()))))
     .fail)
     .fail)
    .fail)
    .fail)
   .fail)
   .fail)
  .fail))
def qdr (x:qc qgQ):Bool:=(qeZ x).val.isSome
def qR (x:qc qgQ):Sh.den qjd:=(qeZ x).qQ default
theorem qu2 (x:qc qgQ) (h:qdr x=true):(qeZ x).val=some (qR x):=PO.qb7 default h
end Go.Av
end
section
namespace Go.Av
open Go
abbrev quD (r:Nat):Sh:=.pair (.ty qcL) (.pair (.ty qb0) (.pair (.ty qG) (.pair (.ty .bool) (.pair (.osl r qbx) (.ty .unit)))))
abbrev qtm:Ty:=.pair qcL (.pair qb0 (.pair qG (.pair .bool (.pair (.sl qbx) .unit))))
abbrev qgy:List Ty:=[qw]
abbrev qjw:Sh:=Sh.ty (Ty.int IntKind.i64)
def qgq (x:qc qgy):PO (Sh.den qjw) :=
 (.ite (decide (x.2.1≥0)&&(x.1==0||(x.1==1||(x.1==2&&(decide (x.2.2.1≥0)&&(decide (x.2.2.1<15)&&(decide (x.2.2.2.1≥0)&&decide (x.2.2.2.1<32))))||x.1==3&&(decide (x.2.2.2.1≥0)&&decide (x.2.2.2.1<4))))))
  (.ret (0))
  (.ret (2)))
def qmw (_:qc qgy):Bool:=true
def qb4 (x:qc qgy):Sh.den qjw:=(qgq x).qQ default
theorem qu8 (x:qc qgy) (_:qmw x=true):(qgq x).val=some (qb4 x):=PO.qbS default (by simp[qgq,PO.sure])
abbrev qis:List Ty:=[qG,qw]
abbrev qkZ:Sh:=Sh.ty qG
def qfT (x:qc qis):PO (Sh.den qkZ) :=
 (.ite (x.2.1==2)
  (.ite (inRange x.2.2.2.1 15)
  (.ite (inRange x.2.2.2.1 15)
   (.ite (x.2.1==3)
   (.ret ((List.set x.1.1 (Int.toNat x.2.2.2.1) (qep (List.getD x.1.1 (Int.toNat x.2.2.2.1) (Ty.dflt (Ty.int IntKind.i64)),x.2.2.2.2.1)),x.1.2.1,!x.1.2.2.1==(x.2.2.2.2.1==0),!x.1.2.2.2.1==(x.2.2.2.2.1==1),!x.1.2.2.2.2.1==(x.2.2.2.2.1==2),!x.1.2.2.2.2.2.1==(x.2.2.2.2.1==3),x.1.2.2.2.2.2.2)))
   (.ret ((List.set x.1.1 (Int.toNat x.2.2.2.1) (qep (List.getD x.1.1 (Int.toNat x.2.2.2.1) (Ty.dflt (Ty.int IntKind.i64)),x.2.2.2.2.1)),x.1.2))))
   .fail)
  .fail)
  (.ite (x.2.1==3)
  (.ret ((x.1.1,x.1.2.1,!x.1.2.2.1==(x.2.2.2.2.1==0),!x.1.2.2.2.1==(x.2.2.2.2.1==1),!x.1.2.2.2.2.1==(x.2.2.2.2.1==2),!x.1.2.2.2.2.2.1==(x.2.2.2.2.1==3),x.1.2.2.2.2.2.2)))
  (.ret (x.1))))
def qdX (x:qc qis):Bool:=(qfT x).val.isSome
def qbw (x:qc qis):Sh.den qkZ:=(qfT x).qQ default
theorem qwL (x:qc qis) (h:qdX x=true):(qfT x).val=some (qbw x):=PO.qb7 default h
abbrev qgt:List Sh:=[quD 0,.ty qw]
abbrev qgh:List Sh:=[]
abbrev qde:Sh:=Sh.tup (Sh.pair (Sh.pair (Sh.ty (Ty.pair (Ty.int IntKind.i64) (Ty.pair (Ty.int IntKind.i64) (Ty.pair qew (Ty.pair (Ty.int IntKind.i64) Ty.unit))))) (Sh.pair (Sh.ty (Ty.pair qew (Ty.pair Ty.str (Ty.pair Ty.str Ty.unit)))) (Sh.pair (Sh.ty qG) (Sh.pair (Sh.ty Ty.bool) (Sh.pair (Sh.osl 0 qw) (Sh.ty Ty.unit)))))) (Sh.pair (Sh.ty qw) (Sh.ty Ty.unit)))
abbrev qdw:List Sh:=[]
def qxZ (m:Sh.den (quD 0)) (h:qG.den) (i:qbd.den):PO (Sh.den qde×ql qdw) :=
 (.ite ((qi (h,i)).2.1&&(qi (h,i)).1.2.2.2.1)
     (.ite (qdg (m.2.1,(qi (h,i)).1.1,(qi (h,i)).1.2.1,true))
      (.ite (qcN (m.2.1,(qi (h,i)).1.1,(qi (h,i)).1.2.1,true) != 0)
      (.ret (((m.1,m.2.1,(h.1,m.1.2.1,h.2.2),m.2.2.2),(2,h.2.1,(qi (h,i)).1.1,12,()),()),()))
      (.ite (Nat.ble ((List.length m.2.2.2.2.1+List.length [(1,(qi (h,i)).1.1,(qi (h,i)).1.2.1,(qi (h,i)).1.2.2.1,())])*32) 140737488355328)
       (.ite ((qi (h,i)).2.1&&!(qi (h,i)).1.2.2.2.1)
       (.ite (qdf (m.2.1,m.2.2.2.2.1++[(1,(qi (h,i)).1.1,(qi (h,i)).1.2.1,(qi (h,i)).1.2.2.1,())],(qi (h,i)).1.1,(qi (h,i)).1.2.1))
        (.ite ((qbs (m.2.1,m.2.2.2.2.1++[(1,(qi (h,i)).1.1,(qi (h,i)).1.2.1,(qi (h,i)).1.2.2.1,())],(qi (h,i)).1.1,(qi (h,i)).1.2.1)).2.1 != 0)
        (.ret (((m.1,m.2.1,(h.1,m.1.2.1,h.2.2),m.2.2.2.1,m.2.2.2.2.1++[(1,(qi (h,i)).1.1,(qi (h,i)).1.2.1,(qi (h,i)).1.2.2.1,())],m.2.2.2.2.2),(2,h.2.1,(qi (h,i)).1.1,12,()),()),()))
        (.ite (qdF (h,i,(qbs (m.2.1,m.2.2.2.2.1++[(1,(qi (h,i)).1.1,(qi (h,i)).1.2.1,(qi (h,i)).1.2.2.1,())],(qi (h,i)).1.1,(qi (h,i)).1.2.1)).1))
         (.ret (((m.1,m.2.1,(qcs (h,i,(qbs (m.2.1,m.2.2.2.2.1++[(1,(qi (h,i)).1.1,(qi (h,i)).1.2.1,(qi (h,i)).1.2.2.1,())],(qi (h,i)).1.1,(qi (h,i)).1.2.1)).1)).1,!(qcs (h,i,(qbs (m.2.1,m.2.2.2.2.1++[(1,(qi (h,i)).1.1,(qi (h,i)).1.2.1,(qi (h,i)).1.2.2.1,())],(qi (h,i)).1.1,(qi (h,i)).1.2.1)).1)).2.1,m.2.2.2.2.1++[(1,(qi (h,i)).1.1,(qi (h,i)).1.2.1,(qi (h,i)).1.2.2.1,())],m.2.2.2.2.2),(0,h.2.1,(qi (h,i)).1.1,qdh (h,i),()),()),()))
         .fail))
        .fail)
       (.ite (qdF (h,i,0))
        (.ret (((m.1,m.2.1,(qcs (h,i,0)).1,!(qcs (h,i,0)).2.1,m.2.2.2.2.1++[(1,(qi (h,i)).1.1,(qi (h,i)).1.2.1,(qi (h,i)).1.2.2.1,())],m.2.2.2.2.2),(0,h.2.1,(qi (h,i)).1.1,qdh (h,i),()),()),()))
        .fail))
       .fail))
      .fail)
     (.ite ((qi (h,i)).2.1&&!(qi (h,i)).1.2.2.2.1)
      (.ite (qdf (m.2.1,m.2.2.2.2.1,(qi (h,i)).1.1,(qi (h,i)).1.2.1))
      (.ite ((qbs (m.2.1,m.2.2.2.2.1,(qi (h,i)).1.1,(qi (h,i)).1.2.1)).2.1 != 0)
       (.ret (((m.1,m.2.1,(h.1,m.1.2.1,h.2.2),m.2.2.2),(2,h.2.1,(qi (h,i)).1.1,12,()),()),()))
       (.ite (qdF (h,i,(qbs (m.2.1,m.2.2.2.2.1,(qi (h,i)).1.1,(qi (h,i)).1.2.1)).1))
       (.ret (((m.1,m.2.1,(qcs (h,i,(qbs (m.2.1,m.2.2.2.2.1,(qi (h,i)).1.1,(qi (h,i)).1.2.1)).1)).1,!(qcs (h,i,(qbs (m.2.1,m.2.2.2.2.1,(qi (h,i)).1.1,(qi (h,i)).1.2.1)).1)).2.1,m.2.2.2.2),(0,h.2.1,(qi (h,i)).1.1,qdh (h,i),()),()),()))
       .fail))
      .fail)
      (.ite (qdF (h,i,0))
      (.ret (((m.1,m.2.1,(qcs (h,i,0)).1,!(qcs (h,i,0)).2.1,m.2.2.2.2),(0,h.2.1,(qi (h,i)).1.1,qdh (h,i),()),()),()))
      .fail)))
def qAJ (m:Sh.den (quD 0)) (h:qG.den) (k:qbd.den×Int×Int×Unit→PO (Sh.den qde×ql qdw)):PO (Sh.den qde×ql qdw) :=
 (.ite (Int.tmod h.2.1 2 != 0||decide (h.2.1≥qh m.2.1.2.1))
   (.ret (((m.1,m.2.1,(h.1,m.1.2.1,h.2.2),m.2.2.2),(2,h.2.1,0,12,()),()),()))
   (.ite (decide (0≤qoT (w64 (h.2.1+4)) (qh m.2.1.2.1))&&decide (qoT (w64 (h.2.1+4)) (qh m.2.1.2.1)≤qh m.2.1.2.1)&&decide (0≤h.2.1)&&decide (h.2.1≤qoT (w64 (h.2.1+4)) (qh m.2.1.2.1)))
   (.ite (qez (List.drop (Int.toNat h.2.1) (List.take (Int.toNat (qoT (w64 (h.2.1+4)) (qh m.2.1.2.1))) m.2.1.2.1)))
    (.ite ((qdP (List.drop (Int.toNat h.2.1) (List.take (Int.toNat (qoT (w64 (h.2.1+4)) (qh m.2.1.2.1))) m.2.1.2.1))).2.2.1 != 0)
    (.ret (((m.1,m.2.1,(h.1,m.1.2.1,h.2.2),m.2.2.2),(2,h.2.1,0,12,()),()),()))
    (k (qdP (List.drop (Int.toNat h.2.1) (List.take (Int.toNat (qoT (w64 (h.2.1+4)) (qh m.2.1.2.1))) m.2.1.2.1)))))
    .fail)
   .fail))
def qzk (m:Sh.den (quD 0)) (h:qG.den) (d:qbd.den×Int×Int×Unit):PO (Sh.den qde×ql qdw) :=
 (.ret (((m.1,m.2.1,(h.1,qic (h.2.1,d.2.1),h.2.2),m.2.2.2),(1,h.2.1,0,1,()),()),()))
def qeo (x:ql qgt) (_:ql qgh):PO (Sh.den qde×ql qdw) :=
 (.ite (qb4 x.2 != 0)
  (.ite (qdX (x.1.2.2.1,0,0,0,0,()))
  (qAJ x.1 (qbw (x.1.2.2.1,0,0,0,0,())) fun d=>qxZ x.1 (qbw (x.1.2.2.1,0,0,0,0,())) d.1)
  .fail)
  (.ite (qdX (x.1.2.2.1,x.2))
  (qAJ x.1 (qbw (x.1.2.2.1,x.2)) fun d =>
   (.ite (x.2.1==1)
   (qzk x.1 (qbw (x.1.2.2.1,x.2)) d)
   (qxZ x.1 (qbw (x.1.2.2.1,x.2)) d.1)))
  .fail))
def qeq (x:ql qgt) (y:ql qgh):Bool:=(qeo x y).val.isSome
def qbJ (x:ql qgt) (y:ql qgh):Sh.den qde×ql qdw:=(qeo x y).qQ default
theorem qv5 (x:ql qgt) (y:ql qgh) (h:qeq x y=true):(qeo x y).val=some (qbJ x y):=PO.qb7 default h
def qcX:LoopN where
 M:=[2,3,4,6,9,10]
 T:=[11,12,13,14,15,16,17,18,19,20,21,22,23,24,25,26,27,28,29,30,31,32,33,34,35,36,37,38,39,40,41,42,43,44,45,46,47,48,49]
 D:=[2,4]
 ss:=[.ty (.int .i64),.box 0 0,.box 1 0,.box 2 0,.osl 0 qhU,.ty (.int .i64)]
 hs:=[quD 1,.ty qw,quD 2]
 es:=[.exit 0]
 σ:=(List (Ty.den qhU))×(Ty.den (.int .i64))×(Sh.den (quD 1))×(Sh.den (.ty qw))×(Sh.den (quD 2))
 x0:=fun x y=>(x.2.2.2.2.1,x.2.2.2.2.2,y.1,y.2.1,y.2.2)
 put:=fun x _ s=>((x.1,x.2.1,x.2.2.1,x.2.2.2.1,s.1,s.2.1),(s.2.2.1,s.2.2.2.1,s.2.2.2.2))
 fuel:=fun x _=>Int.toNat x.1+1
 turn:=fun x _ s =>
 (.ite (decide (qh s.1<x.1)&&!s.2.2.1.2.2.2.1)
  (.ite (s.2.2.2.1.2.1==qh s.1)
  (.ite (qeq (s.2.2.1,s.2.2.2.1) ())
   (.ite (Nat.ble ((List.length s.1+List.length [(qbJ (s.2.2.1,s.2.2.2.1) ()).1.2.1])*32) 140737488355328)
   (.ret (.on (s.1++[(qbJ (s.2.2.1,s.2.2.2.1) ()).1.2.1],bif s.2.2.1.2.2.1.2.1==s.2.2.1.1.2.1 then w64 (s.2.1+1) else s.2.1,(qbJ (s.2.2.1,s.2.2.2.1) ()).1.1,s.2.2.2.1,s.2.2.2.2)))
   .fail)
   .fail)
  (.ite (qeq (s.2.2.1,0,0,0,0,()) ())
   (.ite (Nat.ble ((List.length s.1+List.length [(qbJ (s.2.2.1,0,0,0,0,()) ()).1.2.1])*32) 140737488355328)
   (.ret (.on (s.1++[(qbJ (s.2.2.1,0,0,0,0,()) ()).1.2.1],bif s.2.2.1.2.2.1.2.1==s.2.2.1.1.2.1 then w64 (s.2.1+1) else s.2.1,(qbJ (s.2.2.1,0,0,0,0,()) ()).1.1,s.2.2.2.1,s.2.2.2.2)))
   .fail)
   .fail))
  (.ret (.out 0 (s.1,s.2.1,s.2.2.1,s.2.2.2.1,s.2.2.2.2))))
abbrev qfS:List Sh:=[quD 0,.ty qw,.ty (.int .i64)]
abbrev qfM:List Sh:=[]
abbrev qjg:Sh:=Sh.tup (Sh.pair (Sh.pair (Sh.ty (Ty.pair (Ty.int IntKind.i64) (Ty.pair (Ty.int IntKind.i64) (Ty.pair qew (Ty.pair (Ty.int IntKind.i64) Ty.unit))))) (Sh.pair (Sh.ty (Ty.pair qew (Ty.pair Ty.str (Ty.pair Ty.str Ty.unit)))) (Sh.pair (Sh.ty qG) (Sh.pair (Sh.ty Ty.bool) (Sh.pair (Sh.osl 0 qw) (Sh.ty Ty.unit)))))) (Sh.pair (Sh.osl 1 qw) (Sh.pair (Sh.ty (Ty.int IntKind.i64)) (Sh.ty Ty.unit))))
abbrev qmd:List Sh:=[]
def qd9 (x:ql qfS) (_:ql qfM):PO (Sh.den qjg×ql qmd) :=
 (.opt (LoopN.res qcX (x.2.2,(),(),(),[],0) (x.1,x.2.1,(0,0,(0,0,0,()),0,()),((0,0,0,()),[],[],()),([0,0,0,0,0,0,0,0,0,0,0,0,0,0,0],0,false,false,false,false,()),false,[],())) fun p0 =>
  (.ret ((p0.2.2.2.1,p0.2.1,p0.2.2.1,()),())))
def qeY (x:ql qfS) (y:ql qfM):Bool:=(qd9 x y).val.isSome
def qcm (x:ql qfS) (y:ql qfM):Sh.den qjg×ql qmd:=(qd9 x y).qQ default
theorem quR (x:ql qfS) (y:ql qfM) (h:qeY x y=true):(qd9 x y).val=some (qcm x y):=PO.qb7 default h
def qdk:LoopN where
 M:=[1,3,6,7,8]
 T:=[19,20,21,22,23,24,25,26,27,28,29,30,31,32,33]
 D:=[1,8]
 ss:=[.ty (.sl qhU),.box 0 0,.box 1 0,.box 2 0,.ty (.int .i64)]
 hs:=[.ty qtm,.ty qcg,.ty qcg]
 es:=[.exit 0]
 σ:=(Ty.den (.int .i64))×(Sh.den (.ty qtm))×(Sh.den (.ty qcg))×(Sh.den (.ty qcg))
 x0:=fun x y=>(x.2.2.2.2,y.1,y.2.1,y.2.2)
 put:=fun x _ s=>((x.1,x.2.1,x.2.2.1,x.2.2.2.1,s.1),(s.2.1,s.2.2.1,s.2.2.2))
 fuel:=fun x _=>List.length x.1+1
 turn:=fun x _ s =>
 (.ite (decide (s.1<qh x.1))
  (.ite (inRange s.1 (List.length x.1))
  (.ret (.on (w64 (s.1+1),s.2.1,s.2.2.1,(s.2.2.2.1,s.2.2.2.2.1,w64 (s.2.2.2.2.2.1+(List.getD x.1 (Int.toNat s.1) (Ty.dflt qhU)).2.2.2.1),s.2.2.2.2.2.2))))
  .fail)
  (.ret (.out 0 (s.1,s.2.1,s.2.2.1,s.2.2.2))))
abbrev qfU:List Ty:=[qtm,(.sl qhU),(.int .i64)]
abbrev qiG:Sh:=Sh.ty qcg
def qtY (x:qc [qtm,(.sl qhU),(.int .i64)]):=LoopN.res qdk (x.2.1,(),(),(),0) (x.1,(false,0,0,0,0,0,[],[],[],()),x.1.2.2.2.1,qh x.2.1,0,x.2.2,0,0,[],[],[],())
def qdJ (x:qc qfU):PO (Sh.den qiG) :=
 (.opt (qtY x) fun p0 =>
  (.ite (qdf (p0.2.2.1.2.1,p0.2.2.1.2.2.2.2.1,537919488,4))
  (.ite (qdf (p0.2.2.1.2.1,p0.2.2.1.2.2.2.2.1,538968064,4))
   (.ite (qdQ (p0.2.2.1.2.1,p0.2.2.1.2.2.2.2.1,2))
   (.ite (qdQ (p0.2.2.1.2.1,p0.2.2.1.2.2.2.2.1,3))
    (.ite (qdQ (p0.2.2.1.2.1,p0.2.2.1.2.2.2.2.1,4))
    (.ret ((p0.2.2.2.2.1,p0.2.2.2.2.2.1,p0.2.2.2.2.2.2.1,p0.2.2.2.2.2.2.2.1,(qbs (p0.2.2.1.2.1,p0.2.2.1.2.2.2.2.1,537919488,4)).1,(qbs (p0.2.2.1.2.1,p0.2.2.1.2.2.2.2.1,538968064,4)).1,qcq (p0.2.2.1.2.1,p0.2.2.1.2.2.2.2.1,2),qcq (p0.2.2.1.2.1,p0.2.2.1.2.2.2.2.1,3),qcq (p0.2.2.1.2.1,p0.2.2.1.2.2.2.2.1,4),p0.2.2.2.2.2.2.2.2.2.2.2.2.2)))
    .fail)
    .fail)
   .fail)
   .fail)
  .fail))
def qeD (x:qc qfU):Bool:=(qdJ x).val.isSome
def qdN (x:qc qfU):Sh.den qiG:=(qdJ x).qQ default
theorem quI (x:qc qfU) (h:qeD x=true):(qdJ x).val=some (qdN x):=PO.qb7 default h
abbrev qh8:List Ty:=[.str,.str]
abbrev qlg:Sh:=Sh.tup (Sh.pair (Sh.pair (Sh.ty (Ty.pair (Ty.int IntKind.i64) (Ty.pair (Ty.int IntKind.i64) (Ty.pair qew (Ty.pair (Ty.int IntKind.i64) Ty.unit))))) (Sh.pair (Sh.ty (Ty.pair qew (Ty.pair Ty.str (Ty.pair Ty.str Ty.unit)))) (Sh.pair (Sh.ty qG) (Sh.pair (Sh.ty Ty.bool) (Sh.pair (Sh.osl 32 qw) (Sh.ty Ty.unit)))))) (Sh.pair (Sh.ty (Ty.int IntKind.i64)) (Sh.ty Ty.unit)))
def qfX (x:qc qh8):PO (Sh.den qlg) :=
 (.ite (qdr x.1)
  (.ite ((qR x.1).2.1 != 0)
  (.ret ((((0,0,(0,0,0,()),0,()),((0,0,0,()),[],[],()),([0,0,0,0,0,0,0,0,0,0,0,0,0,0,0],0,false,false,false,false,()),false,[],()),(qR x.1).2.1,())))
  (.ite (qeL ((qR x.1).1.2.2.1,x.1,x.2,()) != 0)
   (.ret ((((0,0,(0,0,0,()),0,()),((0,0,0,()),[],[],()),([0,0,0,0,0,0,0,0,0,0,0,0,0,0,0],0,false,false,false,false,()),false,[],()),qeL ((qR x.1).1.2.2.1,x.1,x.2,()),())))
   (.ret ((((qR x.1).1,((qR x.1).1.2.2.1,x.1,x.2,()),(List.set (List.set [0,0,0,0,0,0,0,0,0,0,0,0,0,0,0] 13 537133056) 14 4294967295,(qR x.1).1.1,false,false,false,false,()),false,[],()),0,())))))
  .fail)
def qgb (x:qc qh8):Bool:=(qfX x).val.isSome
def qbY (x:qc qh8):Sh.den qlg:=(qfX x).qQ default
theorem qwP (x:qc qh8) (h:qgb x=true):(qfX x).val=some (qbY x):=PO.qb7 default h
abbrev qh3:List Ty:=[.str,.str,qw,(.int .i64)]
abbrev qk8:Sh:=Sh.tup (Sh.pair (Sh.ty qcg) (Sh.pair (Sh.ty (Ty.int IntKind.i64)) (Sh.ty Ty.unit)))
def qqP (x:qc [.str,.str,qw,(.int .i64)]):=qeD ((qcm ((qbY (x.1,x.2.1)).1,x.2.2) ()).1.1,(qcm ((qbY (x.1,x.2.1)).1,x.2.2) ()).1.2.1,(qcm ((qbY (x.1,x.2.1)).1,x.2.2) ()).1.2.2.1)
def qqD (x:qc [.str,.str,qw,(.int .i64)]):=qdN ((qcm ((qbY (x.1,x.2.1)).1,x.2.2) ()).1.1,(qcm ((qbY (x.1,x.2.1)).1,x.2.2) ()).1.2.1,(qcm ((qbY (x.1,x.2.1)).1,x.2.2) ()).1.2.2.1)
def qfP (x:qc qh3):PO (Sh.den qk8) :=
 (.ite (qgb (x.1,x.2.1))
  (.ite ((qbY (x.1,x.2.1)).2.1 != 0)
  (.ret (((false,0,0,0,0,0,[],[],[],()),(qbY (x.1,x.2.1)).2.1,())))
  (.ite (qb4 x.2.2.1 != 0||(decide (x.2.2.2<0)||decide (x.2.2.2 > 67108864)))
   (.ret (((false,0,0,0,0,0,[],[],[],()),2,())))
   (.ite (qeY ((qbY (x.1,x.2.1)).1,x.2.2) ())
   (.ite (qqP x)
    (.ret ((qqD x,0,())))
    .fail)
   .fail)))
  .fail)
def qdx (x:qc qh3):Bool:=(qfP x).val.isSome
def qbZ (x:qc qh3):Sh.den qk8:=(qfP x).qQ default
theorem qwI (x:qc qh3) (h:qdx x=true):(qfP x).val=some (qbZ x):=PO.qb7 default h
end Go.Av
end
section
namespace Go.Av
open Go
end Go.Av
end
section
namespace Go.Av
open Go
abbrev qfR:List Ty:=[.bool]
abbrev qiw:Sh:=Sh.ty (Ty.int IntKind.i64)
def qiL (x:qc qfR):PO (Sh.den qiw) :=
 (.ite (x)
  (.ret (1))
  (.ret (0)))
def ql6 (_:qc qfR):Bool:=true
def qd (x:qc qfR):Sh.den qiw:=(qiL x).qQ default
theorem quv (x:qc qfR) (_:ql6 x=true):(qiL x).val=some (qd x):=PO.qbS default (by simp[qiL,PO.sure])
abbrev qit:List Ty:=[qcg,(.int .i64),.str]
abbrev qlc:Sh:=Sh.ty qcn
def qfN (x:qc qit):PO (Sh.den qlc) :=
 (.ite ((qj x.1).1==1)
  (.ite (x.2.1==1)
  (.ite ((qj x.1).1==1)
   (.ite (x.2.1==1)
   (.ite (decide (x.1.2.2.2.1 > 0))
    (.ite (qbl x.1)
    (.ret ((1,qd ((qj x.1).2.1==x.2.2),qd !(qj x.1).2.1==x.2.2,qd ((qj x.1).1==2),qd ((qj x.1).1==3),qd ((qj x.1).1==0),qd !qbn x.1,())))
    .fail)
    (.ret ((1,qd ((qj x.1).2.1==x.2.2),qd !(qj x.1).2.1==x.2.2,qd ((qj x.1).1==2),qd ((qj x.1).1==3),qd ((qj x.1).1==0),qd false,()))))
   (.ite (decide (x.1.2.2.2.1 > 0))
    (.ite (qbl x.1)
    (.ret ((1,qd ((qj x.1).2.1==x.2.2),qd true,qd ((qj x.1).1==2),qd ((qj x.1).1==3),qd ((qj x.1).1==0),qd !qbn x.1,())))
    .fail)
    (.ret ((1,qd ((qj x.1).2.1==x.2.2),qd true,qd ((qj x.1).1==2),qd ((qj x.1).1==3),qd ((qj x.1).1==0),qd false,())))))
   (.ite (decide (x.1.2.2.2.1 > 0))
   (.ite (qbl x.1)
    (.ret ((1,qd ((qj x.1).2.1==x.2.2),qd false,qd ((qj x.1).1==2),qd ((qj x.1).1==3),qd ((qj x.1).1==0),qd !qbn x.1,())))
    .fail)
   (.ret ((1,qd ((qj x.1).2.1==x.2.2),qd false,qd ((qj x.1).1==2),qd ((qj x.1).1==3),qd ((qj x.1).1==0),qd false,())))))
  (.ite ((qj x.1).1==1)
   (.ite (x.2.1==1)
   (.ite (decide (x.1.2.2.2.1 > 0))
    (.ite (qbl x.1)
    (.ret ((1,qd false,qd !(qj x.1).2.1==x.2.2,qd ((qj x.1).1==2),qd ((qj x.1).1==3),qd ((qj x.1).1==0),qd !qbn x.1,())))
    .fail)
    (.ret ((1,qd false,qd !(qj x.1).2.1==x.2.2,qd ((qj x.1).1==2),qd ((qj x.1).1==3),qd ((qj x.1).1==0),qd false,()))))
   (.ite (decide (x.1.2.2.2.1 > 0))
    (.ite (qbl x.1)
    (.ret ((1,qd false,qd true,qd ((qj x.1).1==2),qd ((qj x.1).1==3),qd ((qj x.1).1==0),qd !qbn x.1,())))
    .fail)
    (.ret ((1,qd false,qd true,qd ((qj x.1).1==2),qd ((qj x.1).1==3),qd ((qj x.1).1==0),qd false,())))))
   (.ite (decide (x.1.2.2.2.1 > 0))
   (.ite (qbl x.1)
    (.ret ((1,qd false,qd false,qd ((qj x.1).1==2),qd ((qj x.1).1==3),qd ((qj x.1).1==0),qd !qbn x.1,())))
    .fail)
   (.ret ((1,qd false,qd false,qd ((qj x.1).1==2),qd ((qj x.1).1==3),qd ((qj x.1).1==0),qd false,()))))))
  (.ite ((qj x.1).1==1)
  (.ite (x.2.1==1)
   (.ite (decide (x.1.2.2.2.1 > 0))
   (.ite (qbl x.1)
    (.ret ((1,qd false,qd !(qj x.1).2.1==x.2.2,qd ((qj x.1).1==2),qd ((qj x.1).1==3),qd ((qj x.1).1==0),qd !qbn x.1,())))
    .fail)
   (.ret ((1,qd false,qd !(qj x.1).2.1==x.2.2,qd ((qj x.1).1==2),qd ((qj x.1).1==3),qd ((qj x.1).1==0),qd false,()))))
   (.ite (decide (x.1.2.2.2.1 > 0))
   (.ite (qbl x.1)
    (.ret ((1,qd false,qd true,qd ((qj x.1).1==2),qd ((qj x.1).1==3),qd ((qj x.1).1==0),qd !qbn x.1,())))
    .fail)
   (.ret ((1,qd false,qd true,qd ((qj x.1).1==2),qd ((qj x.1).1==3),qd ((qj x.1).1==0),qd false,())))))
  (.ite (decide (x.1.2.2.2.1 > 0))
   (.ite (qbl x.1)
   (.ret ((1,qd false,qd false,qd ((qj x.1).1==2),qd ((qj x.1).1==3),qd ((qj x.1).1==0),qd !qbn x.1,())))
   .fail)
   (.ret ((1,qd false,qd false,qd ((qj x.1).1==2),qd ((qj x.1).1==3),qd ((qj x.1).1==0),qd false,()))))))
def qeK (x:qc qit):Bool:=(qfN x).val.isSome
def qeO (x:qc qit):Sh.den qlc:=(qfN x).qQ default
theorem qwx (x:qc qit) (h:qeK x=true):(qfN x).val=some (qeO x):=PO.qb7 default h
def qeA:LoopN where
 M:=[0,1,2,3,8,9,10,14,15]
 T:=[42,43,44,45,46,47,48,49,50,51,52,53,54]
 D:=[15]
 ss:=[.ty .str,.ty .str,.ty (.sl qw),.ty (.int .i64),.box 0 0,.ty (.int .i64),.box 1 0,.ty (.int .i64),.ty (.int .i64)]
 hs:=[.ty qcn,.ty qcg]
 es:=[.exit 0,.ret]
 σ:=(Ty.den (.int .i64))×(Ty.den (.int .i64))×(Sh.den (.ty qcn))×(Sh.den (.ty qcg))
 x0:=fun x y=>(x.2.2.2.2.2.1,x.2.2.2.2.2.2.2.2,y.1,y.2)
 put:=fun x _ s=>((x.1,x.2.1,x.2.2.1,x.2.2.2.1,x.2.2.2.2.1,s.1,x.2.2.2.2.2.2.1,x.2.2.2.2.2.2.2.1,s.2.1),(s.2.2.1,s.2.2.2))
 fuel:=fun x _=>List.length x.2.2.1+1
 turn:=fun x _ s =>
 (.ite (decide (s.2.1<qh x.2.2.1))
  (.ite (inRange s.2.1 (List.length x.2.2.1)&&true)
  (.ite (qb4 (List.getD x.2.2.1 (Int.toNat s.2.1) (Ty.dflt qw)) != 0)
   (.ret (.out 1 (2,s.2.1,(0,0,0,0,0,0,0,()),s.2.2.2)))
   (.ret (.on (s.1,w64 (s.2.1+1),s.2.2.1,s.2.2.2))))
  .fail)
  (.ret (.out 0 (s.1,s.2.1,s.2.2.1,s.2.2.2))))
def qel:LoopN where
 M:=[0,1,2,3,8,14,16,17,18,19]
 T:=[20,21,65,66,67,68,69,70,71,72,73,74,75,76,77,78,79,80,81,82,83,84,85,86,87,88,89]
 D:=[0,1,2,3,14,16,17,19]
 ss:=[.ty .str,.ty .str,.ty (.sl qw),.ty (.int .i64),.box 0 0,.ty (.int .i64),.ty (.int .i64),.ty .str,.box 1 0,.ty (.int .i64)]
 hs:=[.ty qcn,.ty qcn]
 es:=[.exit 2]
 σ:=(Ty.den (.int .i64))×(Sh.den (.ty qcn))×(Sh.den (.ty qcn))
 x0:=fun x y=>(x.2.2.2.2.2.2.2.2.2,y.1,y.2)
 put:=fun x _ s=>((x.1,x.2.1,x.2.2.1,x.2.2.2.1,x.2.2.2.2.1,x.2.2.2.2.2.1,x.2.2.2.2.2.2.1,x.2.2.2.2.2.2.2.1,x.2.2.2.2.2.2.2.2.1,s.1),(s.2.1,s.2.2))
 fuel:=fun x _=>List.length x.2.2.1+1
 turn:=fun x _ s =>
 (.ite (decide (s.1<qh x.2.2.1))
  (.ite (inRange s.1 (List.length x.2.2.1))
  (.ite (qdx (x.1,x.2.1,List.getD x.2.2.1 (Int.toNat s.1) (Ty.dflt qw),w64 (x.2.2.2.1+x.2.2.2.2.2.1)))
   (.ite (qeK ((qbZ (x.1,x.2.1,List.getD x.2.2.1 (Int.toNat s.1) (Ty.dflt qw),w64 (x.2.2.2.1+x.2.2.2.2.2.1))).1,x.2.2.2.2.2.2.1,x.2.2.2.2.2.2.2.1))
   (.ret (.on (w64 (s.1+1),s.2.1,qk7 (s.2.2,qeO ((qbZ (x.1,x.2.1,List.getD x.2.2.1 (Int.toNat s.1) (Ty.dflt qw),w64 (x.2.2.2.1+x.2.2.2.2.2.1))).1,x.2.2.2.2.2.2.1,x.2.2.2.2.2.2.2.1)))))
   .fail)
   .fail)
  .fail)
  (.ret (.out 0 (s.1,s.2.1,s.2.2))))
def qcS:LoopN where
 M:=[0,1,2,3,12,13,14]
 T:=[15,16,65,66,67,68,69,70,71,72,73,74,75,76,77,78,79,80,81,82,83,84,85,86,87,88,89,90,91,92,93,94]
 D:=[12,14]
 ss:=[.ty .str,.ty .str,.ty (.sl qw),.ty (.int .i64),.ty (.int .i64),.ty .bool,.ty (.int .i64)]
 hs:=[]
 es:=[.exit 0]
 σ:=(Ty.den .bool)×(Ty.den (.int .i64))
 x0:=fun x _=>(x.2.2.2.2.2.1,x.2.2.2.2.2.2)
 put:=fun x _ s=>((x.1,x.2.1,x.2.2.1,x.2.2.2.1,x.2.2.2.2.1,s.1,s.2),())
 fuel:=fun x _=>List.length x.2.2.1+1
 turn:=fun x _ s =>
 (.ite (decide (s.2<qh x.2.2.1)&&x.2.2.2.2.1==0)
  (.ite (inRange s.2 (List.length x.2.2.1))
  (.ret (.on (s.1||(qc7 (x.1,x.2.1,List.getD x.2.2.1 (Int.toNat s.2) (Ty.dflt qw),300)).2.1==0&&!(qc7 (x.1,x.2.1,List.getD x.2.2.1 (Int.toNat s.2) (Ty.dflt qw),300)).1.1,w64 (s.2+1))))
  .fail)
  (.ret (.out 0 (s.1,s.2))))
abbrev qhp:List Ty:=[.str,.str,(.sl qw),(.int .i64)]
abbrev qkd:Sh:=Sh.tup (Sh.pair (Sh.ty qcn) (Sh.pair (Sh.ty (Ty.int IntKind.i64)) (Sh.ty Ty.unit)))
def qfq (x:qc qhp):PO (Sh.den qkd) :=
 (.ite (qdx (x.1,x.2.1,(0,0,0,0,()),x.2.2.2))
  (.ite ((qbZ (x.1,x.2.1,(0,0,0,0,()),x.2.2.2)).2.1 != 0)
  (.ret (((0,0,0,0,0,0,0,()),(qbZ (x.1,x.2.1,(0,0,0,0,()),x.2.2.2)).2.1,())))
  (.ite (qdr x.1)
   (.opt (LoopN.res qeA (x.1,x.2.1,x.2.2.1,x.2.2.2,(),0,(),qcU (qR x.1).1.2.2.1,0) ((0,0,0,0,0,0,0,()),(qbZ (x.1,x.2.1,(0,0,0,0,()),x.2.2.2)).1)) fun p0 =>
   (.ite (way p0.1)
    (.ite (decide (w64 (x.2.2.2+qcU (qR x.1).1.2.2.1) > 67108864))
    (.ret (((0,0,0,0,0,0,0,()),2,())))
    (.opt (LoopN.res qel (x.1,x.2.1,x.2.2.1,x.2.2.2,(),qcU (qR x.1).1.2.2.1,(qj p0.2.2.2.2).1,(qj p0.2.2.2.2).2.1,(),0) (p0.2.2.2.1,0,0,0,0,0,0,0,())) fun p1 =>
     (.ret ((p1.2.2.2,0,())))))
    (.ret ((p0.2.2.2.1,p0.2.1,())))))
   .fail))
  .fail)
def qfu (x:qc qhp):Bool:=(qfq x).val.isSome
def qcu (x:qc qhp):Sh.den qkd:=(qfq x).qQ default
theorem qvA (x:qc qhp) (h:qfu x=true):(qfq x).val=some (qcu x):=PO.qb7 default h
abbrev qb1:List Ty:=[.str,.str,(.sl qw),(.int .i64)]
abbrev qr3:Sh:=Sh.ty Ty.bool
def qil (x:qc qb1):PO (Sh.den qr3) :=
 (.ite (qdr x.1)
  (.ite (decide (qh x.1 > 400)||bif decide (x.2.2.2 > 60) then decide (x.2.2.2≤67108864)||(decide (qh x.2.2.1 > 4)||(qR x.1).2.1==0&&decide (w64 ((qR x.1).1.2.2.1.2.1+(qR x.1).1.2.2.1.2.2.1) > 400)) else decide (qh x.2.2.1 > 4)||(qR x.1).2.1==0&&decide (w64 ((qR x.1).1.2.2.1.2.1+(qR x.1).1.2.2.1.2.2.1) > 400))
  (.ret (true))
  (.ite (qdx (x.1,x.2.1,(0,0,0,0,()),x.2.2.2))
   (.opt (LoopN.res qcS (x.1,x.2.1,x.2.2.1,x.2.2.2,(qbZ (x.1,x.2.1,(0,0,0,0,()),x.2.2.2)).2.1,false,0) ()) fun p0 =>
   (.ite (p0.2.1)
    (.ret (true))
    (.ite (qlj x)
    (.ite (qfu x)
     (.ite (bif Ty.eqb qcn (qgv x).1 (qcu x).1 then(qgv x).2.1==(qcu x).2.1||true else true)
     (.ret (Ty.eqb qcn (qgv x).1 (qcu x).1&&((qgv x).2.1==(qcu x).2.1&&true)))
     .fail)
     .fail)
    .fail)))
   .fail))
  .fail)
end Go.Av
end
section
namespace Go.Proofs.YtamnhodjidmlcaaGreat
open Go Go.Av Go.Proofs Go.RowKit
noncomputable def qvP:Code:=match Tryz.f68.body with
 |some (.seq _ r)=>r
 |_=>.skip
theorem qN5 (w:World):(Instr.typeAssert .nilIface 20 139 true).run Tryz.prog w=.ok (.tuple #[.agg #[.int .i64 0],.bool false]) w:=by
 kernel_rfl
theorem qOG (v:Value) (w:World):(Instr.typeAssert (.iface 139 v) 20 139 true).run Tryz.prog w=.ok (.tuple #[v,.bool true]) w:=by
 kernel_rfl
theorem qLu (cap:Array Value) (w:World):(invoke (.fn (.func 68) cap) #[]).run Tryz.prog w=.ok (.enter 68 cap) w:=by
 have h1 : (Tryz.f68.name == "runtime.NumGoroutine") = false := by kernel_rfl
 have h2:Tryz.f68.body.isNone=false:=by kernel_rfl
 have h3:Tryz.prog.funcs[68]?=some Tryz.f68:=Tryz.func68
 simp only[invoke,callFunc]
 rw[show(#[]:Array Value)++cap=cap by simp]
 simp only[Sem.run_bind,run_program,Result.andThen_ok,h3,h1,h2,Bool.false_eq_true,if_false]
 rfl
set_option maxRecDepth 100000 in
set_option maxHeartbeats 2000000 in
theorem qGX:Catches Tryz.prog 68 139 Tryz.f68 qvP where
 enter:=qLu
 idle:=fun p0 p1 p2 w=>by
  refine callsD_of_wpS (c:=.seq (.region _ _ false) qvP) Tryz.func68 rfl fun c₀ cs hu=>?_
  simp only[Tryz.ntmps68,List.size_toArray,List.length_cons,List.length_nil,Nat.reduceAdd,Nat.reduceSub,Array.replicate_succ,Array.replicate_zero,List.push_toArray,List.append_toArray,List.nil_append,List.cons_append]
  apply wpS_seq
  apply wpS_region
  simp[wpOpsS,go_sem,recoverD,hu,Exit.thenS,qN5]
  refine wpS_of_wp ?_
  refine Code.wp_mono (Q:=fun e a' w'=>e=.normal∧a'.defers=[]∧w'=w.alloc (.cells #[.int .i64 0] 139)) (fun e a' w' hq=>?_) ?_
  ·obtain⟨rfl,hd,rfl⟩:=hq
   exact⟨hd,.returning,by rw[←hu],_,results_none rfl _ _ _,⟨_,rfl⟩,rfl,rfl⟩
  ·show Code.wp _ (.seq (.region _ _ false) (.cond (.tmp 10) _ .skip)) _ _ _
   refine wp_seq (wp_region ?_)
   simp[wpOps,go_sem,Exit.then]
   refine .inl (wp_cond (t:=false) ?_ ?_)
   ·simp[Act.eval]
   simp only[Bool.false_eq_true,if_false]
   exact wp_skip ⟨rfl,rfl,rfl⟩
 caught:=fun p0 p1 p2 m w Rr h=>by
  refine callsD_of_wpS (c:=.seq (.region _ _ false) qvP) Tryz.func68 rfl fun c₀ cs hu=>?_
  simp only[Tryz.ntmps68,List.size_toArray,List.length_cons,List.length_nil,Nat.reduceAdd,Nat.reduceSub,Array.replicate_succ,Array.replicate_zero,List.push_toArray,List.append_toArray,List.nil_append,List.cons_append]
  apply wpS_seq
  apply wpS_region
  simp[wpOpsS,go_sem,recoverD,hu,Exit.thenS,qOG]
  refine wpS_of_wp (Code.wp_mono (fun e a' w' hq=>?_) (h _ rfl rfl rfl rfl rfl rfl))
  obtain⟨he,hd,hr⟩:=hq
  rcases he with rfl |rfl
  ·exact⟨hd,_,rfl,_,results_none rfl _ _ _,⟨_,rfl⟩,rfl,hr⟩
  ·exact⟨hd,_,rfl,_,results_none rfl _ _ _,⟨_,rfl⟩,rfl,hr⟩
theorem qxN {C:Ctx} (hC:Av.Good C) (hP:C.P=Tryz.prog) (unroll d:Nat):qsh C.P 46 (qzj C qeQ unroll d 46 68 139) :=
 qMO hC (gn:=Tryz.f68) (rest:=qvP) (by rw[hP];exact Tryz.func68) rfl (by rw[hP];exact qGX)
end Go.Proofs.YtamnhodjidmlcaaGreat
end
section
namespace Go.Proofs.YtamnhodjidmlcaaGreat
open Go Go.RowKit Go.Shelf Go.Av Go.Proofs
attribute [local go_sem] Oper.semAt_some
abbrev qTs (i:qw.den):Value:=.agg #[.int .i64 i.1,.int .i64 i.2.1,.int .i64 i.2.2.1,.int .i64 i.2.2.2.1]
def qv6 (i:qw.den):List Value:=[.int .i64 i.1,.int .i64 i.2.1,.int .i64 i.2.2.1,.int .i64 i.2.2.2.1]
theorem qP5:(Tryz.prog.info? 23).map (fun i=>(i.zero,i.size,i.bytes))=some (some (.agg #[.int .i64 0,.int .i64 0,.int .i64 0,.int .i64 0]),4,32):=by kernel_rfl
set_option maxRecDepth 100000 in
set_option maxHeartbeats 8000000 in
theorem qSw (k:Int) (bk l:Nat) (J:List qw.den→World→Prop)
  (hbox:∀d W,J d W→Boxed W bk 3 (.int .i64 k))
  (hY:∀d W x,J d W→d.length<485→YieldAt Fence.wide 2 Tryz.prog l #[qTs x] W fun e W'=>e=.returned (.bool true)∧J (d++[x]) W')
  (W:World) (h0:J [] W) :
  CallsIn Fence.wide 3 Tryz.prog 82 #[.func (.yield l) #[] #[],.pointer (some ⟨bk,0,none⟩)] W fun e W'=>(∃v,e=.returned v)∧J (atL k) W':=by
 refine callsIn_of_wp Tryz.func82 rfl trivial ?_ rfl
 simp only[Tryz.ntmps82,List.size_toArray,List.length_cons,List.length_nil,Nat.reduceAdd,Nat.reduceSub,Array.replicate_succ,Array.replicate_zero,List.push_toArray,List.append_toArray,List.nil_append,List.cons_append]
 have hc:=(hbox _ _ h0).cell
 obtain⟨fn,tmps,assign,body,hy,hR⟩:=hY [] W (qx6 k) h0 (by decide)
 simp only[qx6] at hy
 gi_wp2
 refine hR.mono ?_
 rintro e W1 ⟨rfl,hJ1⟩
 gi_wp2
 gi_loopw [11] (fun p wr=>∃r:Nat,p=.int .i64 r∧r≤15∧J ([qx6 k]++qr0 k r) wr) (fun p _=>15-(intOf p).toNat)
 case atStart=>exact⟨0,rfl,by omega,hJ1⟩
 case round =>
  obtain⟨r,rfl,hr,hJr⟩:=hrel
  by_cases hlt:r<15
  ·have hri:(r:Int)<15:=by omega
   gi_wp2
   gi_loopw [14] (fun p wr=>∃b:Nat,p=.int .i64 b∧b≤32∧J ([qx6 k]++qr0 k r++qoQ k r b) wr) (fun p _=>32-(intOf p).toNat)
   case atStart=>exact⟨0,rfl,by omega,by simpa [qoQ] using hJr⟩
   case round =>
    obtain⟨b,rfl,hb,hJb⟩:=hrel
    have hcb:=(hbox _ _ hJb).cell
    by_cases hbt:b<32
    ·have hbi:(b:Int)<32:=by omega
     obtain⟨fn,tmps,assign,body,hy,hR⟩:=hY _ wr (qGQ k r b) hJb (by rw[List.length_append,List.length_append,qv7,qyo,List.length_singleton];omega)
     simp only[qGQ] at hy
     gi_wp2
     refine hR.mono ?_
     rintro e W2 ⟨rfl,hJ2⟩
     gi_wp2
     refine⟨⟨b+1,by simp,by omega,by rw[qHk,←List.append_assoc];exact hJ2⟩,by simp[intOf];omega⟩
    ·have hbe:b=32:=by omega
     subst hbe
     gi_wp2
     refine⟨⟨r+1,by simp,by omega,by rw[qyq,←List.append_assoc];exact hJb⟩,by simp[intOf];omega⟩
  ·have hre:r=15:=by omega
   subst hre
   rw[show((15:Nat):Int)=(15:Int) from rfl]
   gi_wp2
   gi_loopw [26] (fun p wr=>∃b:Nat,p=.int .i64 b∧b≤4∧J ([qx6 k]++qr0 k 15++qpV k b) wr) (fun p _=>4-(intOf p).toNat)
   case atStart=>exact⟨0,rfl,by omega,by simpa [qpV] using hJr⟩
   case round =>
    obtain⟨b,rfl,hb,hJb⟩:=hrel
    have hcb:=(hbox _ _ hJb).cell
    by_cases hbt:b<4
    ·have hbi:(b:Int)<4:=by omega
     obtain⟨fn,tmps,assign,body,hy,hR⟩:=hY _ wr (qGR k b) hJb (by rw[List.length_append,List.length_append,qv7,qJ0,List.length_singleton];omega)
     simp only[qGR] at hy
     gi_wp2
     refine hR.mono ?_
     rintro e W2 ⟨rfl,hJ2⟩
     gi_wp2
     go_roundw
     case rel=>exact⟨b+1,by simp,by omega,by rw[qGV,←List.append_assoc];exact hJ2⟩
     case measure=>simp[intOf];omega
    ·have hbe:b=4:=by omega
     subst hbe
     gi_wp2
     go_end0
     exact⟨⟨_,rfl⟩,hJb⟩
theorem qM4 (w:World) (cs:Array Value) (t:TypeId) (l:List Value) (hl:l=cs.toList):∀j u,l[j]?=some u→(w.alloc (.cells cs t)).cell? ((⟨w.heap.size,0,none⟩:Addr).add j)=some u:=by
 intro j u hj
 subst hl
 rw[add_eq rfl]
 simp only[World.cell?,World.alloc_heap_new]
 simpa using hj
structure qvL (w:World) (D:Nat) (rc:LoopState→Option Code→Go.Loop) (st:LoopState) (pe:Option Code) (k:Int) (d:List qw.den) (W:World):Prop where
 b4:∃v,Boxed W w.heap.size 44 v∧W.ownsRow w.heap.size 23 4 v d.length (d.flatMap qv6)
 bk:Boxed W (w.heap.size+1) 3 (.int .i64 k)
 below:Below w.heap.size w W
 frz:∀a,W.frozen? a=w.frozen? a
 dfr:W.heap[D]?=some (.deferred (some []))
 lp:W.heap[D+1]?=some (.loop (rc st pe))
theorem qJ8 {W W':World} (h:Below W.heap.size W W'):W.grownBy W' none:=⟨h.os,h.tape,h.output,h.size,fun k hk _=>h.block k hk⟩
theorem qt9 {W:World} {k:Nat} {o:Obj} (h:W.heap[k]?=some o):k<W.heap.size:=(Array.getElem?_eq_some_iff.1 h).1
theorem qvL.below' {w:World} {D:Nat} {rc:LoopState→Option Code→Go.Loop} {st:LoopState} {pe:Option Code} {k:Int} {d:List qw.den} {W W':World} (h:qvL w D rc st pe k d W) (hb:Below W.heap.size W W') (hz:∀a,W'.frozen? a=W.frozen? a):qvL w D rc st pe k d W':=by
 have hg:=qJ8 hb
 obtain⟨v,h4,hr⟩:=h.b4
 exact⟨⟨v,h4.kept hg (by simp),hr.kept hg (by cases v.ownBlock<;>simp)⟩,h.bk.kept hg (by simp),h.below.trans (hb.mono h.below.size),fun a=>(hz a).trans (h.frz a),(hb.block _ (qt9 h.dfr)).trans h.dfr,(hb.block _ (qt9 h.lp)).trans h.lp⟩
theorem qvL.turn {w:World} {D:Nat} {rc:LoopState→Option Code→Go.Loop} {st st':LoopState} {pe pe':Option Code} {k:Int} {d:List qw.den} {W:World} (h:qvL w D rc st pe k d W) (hD:w.heap.size≤D):qvL w D rc st' pe' k d (W.putObj (D+1) (.loop (rc st' pe'))):=by
 have hg:=grownBy_putObj' W (D+1) (.loop (rc st' pe'))
 obtain⟨v,h4,hr⟩:=h.b4
 have hne:∀{k:Nat} {t:TypeId} {v:Value},Boxed W k t v→some k≠some (D+1):=fun hk e=>by
  cases e
  have hk':W.heap[D+1]?=_:=hk
  rw[h.lp] at hk'
  cases hk'
 exact⟨⟨v,h4.kept hg (hne h4),ownsRow_putObj hr _ h.lp rfl⟩,h.bk.kept hg (hne h.bk),
  h.below.trans ⟨hg.os,hg.tape,hg.output,hg.size,fun k hk=>hg.block k (Nat.lt_of_lt_of_le hk h.below.size) (by simp;omega)⟩,fun a=>(qzf _ _ _ _ h.lp rfl rfl a).trans (h.frz a),(World.putObj_heap_other (by omega)).trans h.dfr,World.putObj_heap_same (qt9 h.lp)⟩
set_option maxRecDepth 100000 in
set_option maxHeartbeats 4000000 in
theorem qTc (k:Int) (w:World) :
  CallsIn Fence.wide 3 Tryz.prog 54 #[.int .i64 k] w fun e w'=>e=.returned (.func (.func 82) #[] #[.pointer (some ⟨w.heap.size,0,none⟩)])∧w'=w.alloc (.cells #[.int .i64 k] 3):=by
 refine callsIn_of_wp Tryz.func54 rfl trivial ?_ rfl
 simp only[Tryz.ntmps54,List.size_toArray,List.length_cons,List.length_nil,Nat.reduceAdd,Nat.reduceSub,Array.replicate_succ,Array.replicate_zero,List.push_toArray,List.append_toArray,List.nil_append,List.cons_append]
 gi_wp2
 go_ret
 exact⟨rfl,rfl⟩
set_option maxRecDepth 100000 in
set_option maxHeartbeats 8000000 in
theorem qTa (k:Int) (w:World) :
  CallsIn Fence.wide 4 Tryz.prog 30 #[.int .i64 k] w fun e W'=>∃v,e=.returned v∧(Below w.heap.size w W'∧∀a,W'.frozen? a=w.frozen? a) ∧
   W'.ownsRow w.heap.size 23 4 v (bif decide (k<0) then[] else atL k).length ((bif decide (k<0) then[] else atL k).flatMap qv6):=by
 obtain⟨i0,hi,hz0,hz1,hz2⟩:=info_parts qP5
 refine callsIn_of_wp_marks Tryz.func30 rfl trivial ?_ rfl
 simp only[Tryz.ntmps30,List.size_toArray,List.length_cons,List.length_nil,Nat.reduceAdd,Nat.reduceSub,Array.replicate_succ,Array.replicate_zero,List.push_toArray,List.append_toArray,List.nil_append,List.cons_append]
 gi_wp2_with (refine⟨trivial,?_⟩;gi_at_call 54;refine(qTc k _).mono ?_;rintro e w' ⟨rfl,rfl⟩)
 ·have hd:decide (k<0)=true:=decide_eq_true (by assumption)
  rw[hd]
  refine⟨_,results_tmp rfl _ _ _,_,rfl,⟨(Below.refl _ w).alloc (Nat.le_refl _) _,qnF _ _ rfl⟩,World.ownsRow_nil _ _ _ _⟩
 ·have hk:0≤k:=by assumption
  have hd:decide (k<0)=false:=decide_eq_false (by omega)
  have b4:=(Boxed.new w 44 (.slice none 0 0)).alloc (.cells #[.int .i64 k] 3)
  have bk:=Boxed.new (w.alloc (.cells #[.slice none 0 0] 44)) 3 (.int .i64 k)
  simp only[World.size_alloc] at b4 bk
  have hB0:Below w.heap.size w ((w.alloc (.cells #[.slice none 0 0] 44)).alloc (.cells #[.int .i64 k] 3)):=((Below.refl _ w).alloc (Nat.le_refl _) _).alloc (by simp) _
  have hF0:∀a,((w.alloc (.cells #[.slice none 0 0] 44)).alloc (.cells #[.int .i64 k] 3)).frozen? a=w.frozen? a:=fun a=>by rw[qnF _ _ rfl,qnF _ _ rfl]
  have hsz:((w.alloc (.cells #[.slice none 0 0] 44)).alloc (.cells #[.int .i64 k] 3)).heap.size=w.heap.size+2:=by simp
  generalize ((w.alloc (.cells #[.slice none 0 0] 44)).alloc (.cells #[.int .i64 k] 3))=W0 at b4 bk hB0 hF0 hsz ⊢
  refine qK9 rfl (by decide) (gf:=82) (lb:=#[.pointer (some ⟨w.heap.size+1,0,none⟩)]) rfl trivial (enters_of Tryz.func82 (by kernel_rfl) rfl) (fun fn _=>?_)
  generalize hrc:qoq fn _ _ _ _ W0.heap.size=rc
  have hw1:((W0.alloc (.deferred (some []))).alloc (.loop (rc .ready none))).heap[W0.heap.size+1]?=some (.loop (rc .ready none)):=by
   have:=World.alloc_heap_new (W0.alloc (.deferred (some []))) (.loop (rc .ready none))
   rwa [World.size_alloc] at this
  have hw2:((W0.alloc (.deferred (some []))).alloc (.loop (rc .ready none))).heap[W0.heap.size]?=some (.deferred (some [])) :=
   (Below.heap_alloc _ _ _ (by simp)).trans (World.alloc_heap_new W0 _)
  have hm0:qvL w W0.heap.size rc .ready none k [] ((W0.alloc (.deferred (some []))).alloc (.loop (rc .ready none))) :=
   ⟨⟨_,(b4.alloc _).alloc _,World.ownsRow_nil _ _ _ _⟩,(bk.alloc _).alloc _,(hB0.alloc (by omega) _).alloc (by simp;omega) _,fun a=>((qnF _ _ rfl a).trans (qnF _ _ rfl a)).trans (hF0 a),hw2,hw1⟩
  have hD:w.heap.size≤W0.heap.size:=by omega
  clear hw1 hw2
  refine(qSw k (w.heap.size+1) (W0.heap.size+1) (fun d W=>qvL w W0.heap.size rc .ready none k d W) (fun d W h=>h.bk) ?round _ hm0).mono ?_
  case round =>
   intro d W x h hlt
   refine qND hrc trivial h.lp rfl ?_
   clear hm0 hF0
   rw[hsz] at h ⊢
   gi_wp2
   have h1:=h.below' ((Below.refl _ W).alloc (Nat.le_refl _) (.cells #[.int .i64 x.1,.int .i64 x.2.1,.int .i64 x.2.2.1,.int .i64 x.2.2.2.1] 23)) (qnF _ _ rfl)
   refine⟨h1.lp,?_⟩
   have h2:=h1.turn (st':=.busy) (pe':=none) (by omega)
   have hx:((W.alloc (.cells #[.int .i64 x.1,.int .i64 x.2.1,.int .i64 x.2.2.1,.int .i64 x.2.2.2.1] 23)).putObj (w.heap.size+2+1) (.loop (rc .busy none))).heap[W.heap.size]?=some (.cells #[.int .i64 x.1,.int .i64 x.2.1,.int .i64 x.2.2.1,.int .i64 x.2.2.2.1] 23) :=
    (World.putObj_heap_other (by have:=qt9 h.lp;omega)).trans (World.alloc_heap_new W _)
   have hxb:w.heap.size≤W.heap.size:=h.below.size
   generalize ((W.alloc (.cells #[.int .i64 x.1,.int .i64 x.2.1,.int .i64 x.2.2.1,.int .i64 x.2.2.2.1] 23)).putObj (w.heap.size+2+1) (.loop (rc .busy none)))=W2 at h2 hx ⊢
   generalize W.heap.size=bx at hx hxb ⊢
   clear h1 h hrc
   obtain⟨⟨v,b4',hrow⟩,bk',hB',hZ0,hD',hL'⟩:=h2
   have hZ':Hid (∀a,W2.frozen? a=w.frozen? a):=hZ0
   clear hZ0
   have c4:=b4'.cell
   have cx:∀k,k<4→W2.cell? ⟨bx,k,none⟩=some ((qv6 x).getD k undef):=fun k hk=>by
    simp only[World.cell?,hx]
    match k,hk with
    |0,_=>rfl
    |1,_=>rfl
    |2,_=>rfl
    |3,_=>rfl
   have cx0:=cx 0 (by decide)
   have cx1:=cx 1 (by decide)
   have cx2:=cx 2 (by decide)
   have cx3:=cx 3 (by decide)
   simp only[qv6,List.getD_cons_zero,List.getD_cons_succ] at cx0 cx1 cx2 cx3
   clear cx
   have hml:d.length+1≤maxLen:=by unfold maxLen;omega
   have hmb:(d.length+1)*32≤140737488355328:=by omega
   gi_wp2_with (gi_at_builtin;refine qwK _ rfl _ _ 44 rfl w.heap.size 23 i0 (.agg #[.int .i64 0,.int .i64 0,.int .i64 0,.int .i64 0]) 4 32 Tryz.underlying44 hi hz0 hz1 hz2 rfl (by decide) _ _ _ rfl (hrow.alloc _) ⟨W2.heap.size,0,none⟩ 1 1 (by decide) (qv6 x) rfl rfl (qM4 _ _ _ _ rfl) (by simp[qv6,Value.oneCell']) hml hmb (by have:=hB'.size;simp;omega) ?_;intro v' w1 hown' hgrow hfz0;have hfz:=show Hid (∀x,w1.frozen? x=_) from hfz0;clear hfz0;obtain⟨g',cap',rfl⟩:=ownsRow_succ hown';obtain⟨hv1,hv2,hr2,hk2,hb2⟩:=b4'.appended (by decide) hrow hB'.size (by omega) hown' hgrow;have hc1:=hv1.cell;have hf1:=hv1.frozen)
   have nk:=bk'.not_row (by decide) hrow
   have hgs:=grownBy_setCell' w1 w.heap.size (.slice (some ⟨g',0,none⟩) (d.length+1) cap')
   have hm:qvL w (w.heap.size+2) rc .busy none k (d++[x]) (w1.setCell ⟨w.heap.size,0,none⟩ (.slice (some ⟨g',0,none⟩) (d.length+1) cap')) :=
    ⟨⟨_,hv2,by simpa [List.flatMap_append] using hr2⟩,((bk'.alloc _).kept hgrow nk).kept hgs (by simp),hB'.trans hb2,fun a=>((World.frozen?_setCell ..).trans ((hfz.out a).trans (qnF _ _ rfl a))).trans (hZ'.out a),hk2.same _ _ hD' rfl,hk2.same _ _ hL' rfl⟩
   exact⟨hm.lp,rfl,hm.turn (by omega)⟩
  ·rintro e W1 ⟨hv,hm⟩
   refine⟨hv,.inl ⟨hm.lp,?_⟩⟩
   have h2:=hm.turn (st':=.exhausted) (pe':=none) (by omega)
   clear hm0
   generalize (W1.putObj (W0.heap.size+1) (.loop (rc .exhausted none)))=W2 at h2 ⊢
   obtain⟨v,b4',hrow⟩:=h2.b4
   have c4:=b4'.cell
   have hd3:=h2.dfr
   rw[hsz] at hd3 ⊢
   gi_wp2
   refine⟨by simp,.inl ⟨_,_,rfl,run_takeDeferred hd3,?_⟩⟩
   have hgp:=grownBy_putObj' W2 (w.heap.size+2) (.deferred none)
   refine⟨_,results_tmp rfl _ _ _,v,rfl,⟨h2.below.trans ⟨hgp.os,hgp.tape,hgp.output,hgp.size,fun k hk=>hgp.block k (Nat.lt_of_lt_of_le hk h2.below.size) (by simp;omega)⟩,fun a=>(qzf _ _ _ _ hd3 rfl rfl a).trans (h2.frz a)⟩,?_⟩
   exact ownsRow_putObj hrow _ hd3 rfl
theorem qK1 {w:World} {K:Kinds}:∀l:List qw.den,RL (RT w K qw) l (l.flatMap qv6)
 |[]=>rfl
 |x::l=>⟨qv6 x,l.flatMap qv6,by simp,⟨[.int .i64 x.1],_,rfl,rfl,[.int .i64 x.2.1],_,rfl,rfl,[.int .i64 x.2.2.1],_,rfl,rfl,[.int .i64 x.2.2.2.1],[],rfl,rfl,rfl⟩,qK1 l⟩
theorem qOH:qos Tryz.prog 30 (qp qku qwn qsp qwt):=by
 intro args v hv w K vs hvs hfix
 unfold qp at hv
 cases hx:qt2 qku args with
 |none=>rw[hx] at hv;cases hv
 |some k =>
  rw[hx] at hv
  simp only[Option.map_some,Option.some.injEq,Prod.mk.injEq] at hv
  obtain⟨hg,rfl⟩:=hv
  have hva:=qw5 qku args k vs hx hvs
  match vs,hva with
  |[u],hva =>
   have hu:=RV.int hva.1
   subst hu
   refine(callsIn_wide.1 (qTa k w)).mono ?_
   rintro e W' ⟨r,rfl,⟨hB,_⟩,hrow⟩
   have hK:∀b,(if b<w.heap.size then K b else Kind.old).fixed=true:=fun b=>by
    by_cases h:b<w.heap.size
    ·rw[if_pos h];exact hfix b h
    ·rw[if_neg h];rfl
   refine⟨_,fun b=>if b<w.heap.size then K b else .old,rfl,?_,?_,?_⟩
   ·exact{
     os:=hB.os
     tape:=hB.tape
     output:=hB.output
     size:=hB.size
     fix:=fun b hb _=>⟨if_pos hb,hB.block b hb⟩
     stab:=fun b o hb hs=>⟨by unfold qdC;simp only[if_pos hb];exact hs,World.cell?_of_block (hB.block b hb)⟩
     box:=fun b id hb hk=>by simp only[if_pos hb];exact hk
     bsz:=fun b id n hb hk hn=>(by have:=hfix b hb;rw[hk] at this;cases this)}
   ·intro b id _ hk
    have h1:=hK b
    simp only at hk
    rw[hk] at h1
    cases h1
   ·have hcc:∀A len cap,r=.slice A len cap→∀a,A=some a→∃cc,RL (RT W' (fun b=>if b<w.heap.size then K b else .old) qw) (bif decide (k<0) then[] else atL k) cc∧At W' (fun b=>if b<w.heap.size then K b else .old) a cc:=by
     intro A len cap hr a ha
     subst hr ha
     rcases hrow.2 with⟨e,_⟩ |⟨g,cap',cur,e,hg,hh,_,_,_,hpre⟩
     ·cases e
     ·injection e with e1 e2 e3
      injection e1 with e1
      subst e1
      refine⟨_,qK1 _,fun j v hj=>⟨rfl,?_,?_⟩⟩
      ·rw[←hpre] at hj
       simp only[World.cell?,hh,Option.isSome_none,Bool.false_eq_true,if_false,Nat.zero_add]
       rw[List.getElem?_take] at hj
       split at hj
       ·simpa using hj
       ·cases hj
      ·unfold qdC
       simp only[if_neg (Nat.not_lt.2 hg)]
       exact trivial
    rcases hrow.2 with⟨e,h0⟩ |⟨g,cap',cur,e,_,_,hle,_⟩
    ·subst e
     exact⟨⟨none,0,0,rfl,h0.symm,Nat.le_refl _,fun _=>rfl,fun a ha=>by cases ha⟩,(fun e=>(by cases e)),(fun _ c e=>(by cases e))⟩
    ·subst e
     exact⟨⟨_,_,cap',rfl,rfl,hle,(fun e=>(by cases e)),hcc _ _ _ rfl⟩,(fun e=>(by cases e)),(fun _ c e=>(by cases e))⟩
end Go.Proofs.YtamnhodjidmlcaaGreat
end
section
namespace Go.Proofs.YtamnhodjidmlcaaGreat
open Go Go.Av Go.Proofs
noncomputable def qKE:Ctx:=qLt Tryz.prog [147,52,89,23,73,27,152,65,46,132,71]
theorem qJu:Av.Good qKE:=qMS (by kernel_rfl) (by kernel_rfl) (by kernel_rfl)
noncomputable def qKW:Ctx:=qKE.addPlain 147 (qp ql1 qrt qoy qcI)
theorem qJz:Av.Good qKW:=qJu.fnP qoy qf3 qrt qcI 2 8 (by kernel_rfl) (fun x=>by kernel_rfl) qzh
noncomputable def qKF:Ctx:=qKW.addPlain 148 (qp qmV qsF qpz qc5)
theorem qH7:Av.Good qKF:=qJz.fnP qpz qg5 qsF qc5 2 8 (by kernel_rfl) (fun x=>by kernel_rfl) qBg
noncomputable def qKt:Ctx:=qKF.addPlain 146 (qp ql8 qrq qox qbq)
theorem qIy:Av.Good qKt:=qH7.fnP qox qcM qrq qbq 2 8 (by kernel_rfl) (fun x=>by kernel_rfl) qzs
noncomputable def qKR:Ctx:=qKt.addPlain 167 (qp qmM qsr qpw qg7)
theorem qIk:Av.Good qKR:=qIy.fnP qpw qi0 qsr qg7 3 8 (by kernel_rfl) (fun x=>by kernel_rfl) qCu
noncomputable def qKS:Ctx:=qKR.addPlain 145 (qp ql4 qrk qop qhC)
theorem qIg:Av.Good qKS:=qIk.fnP qop qhB qrk qhC 3 8 (by kernel_rfl) (fun x=>by kernel_rfl) qz9
noncomputable def qK0:Ctx:=qKS.addPlain 113 (qp qmR qsB qpn qk)
theorem qIOz:Av.Good qK0:=qIg.fnP qpn qcB qsB qk 3 8 (by kernel_rfl) (fun x=>by kernel_rfl) qB2
noncomputable def qKP:Ctx:=qK0.addPlain 158 (qp qhe qnk qkg qfs)
theorem qJK:Av.Good qKP:=qIOz.fnP qkg qfx qnk qfs 2 8 (by kernel_rfl) (fun x=>by kernel_rfl) qwa
noncomputable def qKM:Ctx:=qKP.addPlain 123 (qp qhi qnm qj0 qb)
theorem qJr:Av.Good qKM:=qJK.fnP qj0 qft qnm qb 2 8 (by kernel_rfl) (fun x=>by kernel_rfl) qvS
noncomputable def qKA:Ctx:=qKM.addLoop 159 2 qgL.toT.toLoop
theorem qHt:Av.Good qKA:=qJr.loopN qgL 2 8 (by kernel_rfl) (fun _ _=>rfl) (fun x y s m K=>by kernel_rfl) (fun x y s s' K e=>by kernel_rfl)
noncomputable def qHW:Ctx:=qKA.addPlain 159 (qp qih qin qkE qh5)
theorem qE6:Av.Good qHW:=qHt.fnP qkE qom qin qh5 2 8 (by kernel_rfl) (fun x=>by kernel_rfl) qwR
noncomputable def qIm:Ctx:=qHW.addPlain 128 (qp qh9 qds qkx qcp)
theorem qE1:Av.Good qIm:=qE6.fnP qkx qf0 qds qcp 2 8 (by kernel_rfl) (fun x=>by kernel_rfl) qwE
noncomputable def qG2:Ctx:=qIm.addPlain 129 (qp qgJ qmo qjp qdy)
theorem qGb:Av.Good qG2:=qE1.fnP qjp qgD qmo qdy 2 8 (by kernel_rfl) (fun x=>by kernel_rfl) quS
noncomputable def qHR:Ctx:=qG2.addPlain 127 (qp qfQ qlQ qiy qeF)
theorem qFc:Av.Good qHR:=qGb.fnP qiy qge qlQ qeF 2 8 (by kernel_rfl) (fun x=>by kernel_rfl) quA
noncomputable def qIw:Ctx:=qHR.addPlain 100 (qp qgK qbz qjq qo)
theorem qGj:Av.Good qIw:=qFc.fnP qjq qfb qbz qo 3 8 (by kernel_rfl) (fun x=>by kernel_rfl) quT
noncomputable def qIH:Ctx:=qIw.addPlain 183 (qp qoY qbe qrB qr)
theorem qF3:Av.Good qIH:=qGj.fnP qrB qjD qbe qr 2 6 (by kernel_rfl) (fun x=>by kernel_rfl) qG1
noncomputable def qIF:Ctx:=qIH.addPlain 169 (qp qla qc4 qnp qcv)
theorem qFf:Av.Good qIF:=qF3.fnP qnp qD qc4 qcv 4 8 (by kernel_rfl) (fun x=>by kernel_rfl) qyQ
noncomputable def qHL:Ctx:=qIF.addPlain 168 (qp qnK qnH qqw qnU)
theorem qGI:Av.Good qHL:=qFf.fnP qqw qeP qnH qnU 4 8 (by kernel_rfl) (fun x=>by kernel_rfl) qE4
noncomputable def qIx:Ctx:=qHL.addPlain 184 (qp qmN qg2 qps qg1)
theorem qGe:Av.Good qIx:=qGI.fnP qps qbX qg2 qg1 4 8 (by kernel_rfl) (fun x=>by kernel_rfl) qA1
noncomputable def qII:Ctx:=qIx.addPlain 185 (qp qod qqC qqe qqO)
theorem qFo:Av.Good qII:=qGe.fnP qqe qed qqC qqO 4 8 (by kernel_rfl) (fun x=>by kernel_rfl) qFP
noncomputable def qJp:Ctx:=qII.addPlain 170 (qp qlT qoF qoz qoN)
theorem qF0:Av.Good qJp:=qFo.fnP qoz q0 qoF qoN 4 8 (by kernel_rfl) (fun x=>by kernel_rfl) qAm
noncomputable def qH1:Ctx:=qJp.addPlain 151 (qp qn6 qqi qqT qqs)
theorem qFn:Av.Good qH1:=qF0.fnP qqT qY qqi qqs 4 8 (by kernel_rfl) (fun x=>by kernel_rfl) qGl
noncomputable def qHp:Ctx:=qH1.addPlain 117 (qp qn5 qtt qqh qoi)
theorem qFB:Av.Good qHp:=qFn.fnP qqh qtG qtt qoi 4 8 (by kernel_rfl) (fun x=>by kernel_rfl) qFI
noncomputable def qJi:Ctx:=qHp.addPlain 103 (qp qhy qni qj1 qdd)
theorem qFa:Av.Good qJi:=qFB.fnP qj1 qj8 qni qdd 2 8 (by kernel_rfl) (fun x=>by kernel_rfl) qvx
noncomputable def qJg:Ctx:=qJi.addPlain 65 (qp qoZ quB qrM qbc)
theorem qGc:Av.Good qJg:=qFa.fnP qrM qyl quB qbc 2 8 (by kernel_rfl) (fun x=>by kernel_rfl) qI4
noncomputable def qHY:Ctx:=qJg.addPlain 111 (qp qo4 qul qrR qdj)
theorem qGh:Av.Good qHY:=qGc.fnP qrR qyu qul qdj 2 8 (by kernel_rfl) (fun x=>by kernel_rfl) qHO
noncomputable def qHS:Ctx:=qHY.addPlain 90 (qp qqp qvD qs2 qjr)
theorem qGg:Av.Good qHS:=qGh.fnP qs2 qzx qvD qjr 2 8 (by kernel_rfl) (fun x=>by kernel_rfl) qKb
noncomputable def qIh:Ctx:=qHS.addPlain 178 (qp qp4 qwe qtb qje)
theorem qGd:Av.Good qIh:=qGg.fnP qtb qzL qwe qje 2 8 (by kernel_rfl) (fun x=>by kernel_rfl) qJ5
noncomputable def qJo:Ctx:=qIh.addPlain 179 (qp qlU qrp qot qf6)
theorem qGq:Av.Good qJo:=qGd.fnP qot qvo qrp qf6 2 8 (by kernel_rfl) (fun x=>by kernel_rfl) qAn
noncomputable def qIo:Ctx:=qJo.addPlain 155 (qp qqE qwb qsP qld)
theorem qGG:Av.Good qIo:=qGq.fnP qsP qAi qwb qld 2 8 (by kernel_rfl) (fun x=>by kernel_rfl) qJ3
noncomputable def qJa:Ctx:=qIo.addPlain 156 (qp qo8 quG qrF qm6)
theorem qGn:Av.Good qJa:=qGG.fnP qrF qyz quG qm6 2 8 (by kernel_rfl) (fun x=>by kernel_rfl) qIb
noncomputable def qJQ:Ctx:=qJa.addPlain 45 (qp qp9 qvr qs1 qjf)
theorem qGH:Av.Good qJQ:=qGn.fnP qs1 qz8 qvr qjf 2 8 (by kernel_rfl) (fun x=>by kernel_rfl) qKn
noncomputable def qHI:Ctx:=qJQ.addPlain 176 (qp qqG qvF qs6 qle)
theorem qFL:Av.Good qHI:=qGH.fnP qs6 qzF qvF qle 2 8 (by kernel_rfl) (fun x=>by kernel_rfl) qJT
noncomputable def qI3:Ctx:=qHI.addPlain 177 (qp qrZ qxH qt5 qk5)
theorem qFy:Av.Good qI3:=qFL.fnP qt5 qDh qxH qk5 2 8 (by kernel_rfl) (fun x=>by kernel_rfl) qLI
noncomputable def qHD:Ctx:=qI3.addPlain 110 (qp qqV qvE qs0 qhR)
theorem qFx:Av.Good qHD:=qFy.fnP qs0 qz2 qvE qhR 2 8 (by kernel_rfl) (fun x=>by kernel_rfl) qKg
noncomputable def qJd:Ctx:=qHD.addPlain 172 (qp qp1 qvU qsR qoE)
theorem qEZ:Av.Good qJd:=qFx.fnP qsR qAa qvU qoE 2 8 (by kernel_rfl) (fun x=>by kernel_rfl) qJV
noncomputable def qJJ:Ctx:=qJd.addPlain 173 (qp qqW qqF qsM qkV)
theorem qFD:Av.Good qJJ:=qEZ.fnP qsM qzJ qqF qkV 2 8 (by kernel_rfl) (fun x=>by kernel_rfl) qKm
noncomputable def qIY:Ctx:=qJJ.addPlain 174 (qp qqS qvO qsO qqM)
theorem qGt:Av.Good qIY:=qFD.fnP qsO qzv qvO qqM 2 8 (by kernel_rfl) (fun x=>by kernel_rfl) qKs
noncomputable def qI1:Ctx:=qIY.addPlain 175 (qp qqc qv4 qsY qqj)
theorem qFk:Av.Good qI1:=qGt.fnP qsY qzO qv4 qqj 2 8 (by kernel_rfl) (fun x=>by kernel_rfl) qKe
noncomputable def qHw:Ctx:=qI1.addPlain 171 (qp qm0 qsw qpr qmJ)
theorem qFO:Av.Good qHw:=qFk.fnP qpr qwl qsw qmJ 2 8 (by kernel_rfl) (fun x=>by kernel_rfl) qAu
noncomputable def qJq:Ctx:=qHw.addPlain 180 (qp qqY qvR qs9 qoG)
theorem qE8:Av.Good qJq:=qFO.fnP qs9 qzD qvR qoG 2 8 (by kernel_rfl) (fun x=>by kernel_rfl) qKd
noncomputable def qHj:Ctx:=qJq.addPlain 87 (qp qhf qnh qj2 qq)
theorem qGf:Av.Good qHj:=qE8.fnP qj2 qq4 qnh qq 2 8 (by kernel_rfl) (fun x=>by kernel_rfl) qvy
noncomputable def qHc:Ctx:=qHj.addPlain 121 (qp qhg qnf qj6 qN)
theorem qFp:Av.Good qHc:=qGf.fnP qj6 qq1 qnf qN 2 8 (by kernel_rfl) (fun x=>by kernel_rfl) qv1
noncomputable def qH0:Ctx:=qHc.addLoop 120 3 qcG.toT.toLoop
theorem qFl:Av.Good qH0:=qFp.loopN qcG 2 8 (by kernel_rfl) (fun _ _=>rfl) (fun x y s m K=>by kernel_rfl) (fun x y s s' K e=>by kernel_rfl)
noncomputable def qHZ:Ctx:=qH0.addPlain 120 (qp qgu qb6 qju qbh)
theorem qFW:Av.Good qHZ:=qFl.fnP qju qjy qb6 qbh 2 8 (by kernel_rfl) (fun x=>by kernel_rfl) qvp
noncomputable def qIJ:Ctx:=qHZ.addPlain 74 (qp qiq qon qkS qic)
theorem qF8:Av.Good qIJ:=qFW.fnP qkS qsa qon qic 2 8 (by kernel_rfl) (fun x=>by kernel_rfl) qwM
noncomputable def qIn:Ctx:=qIJ.addPlain 106 (qp qhT qn7 qkF qdp)
theorem qFR:Av.Good qIn:=qF8.fnP qkF qsm qn7 qdp 2 8 (by kernel_rfl) (fun x=>by kernel_rfl) qwC
noncomputable def qJl:Ctx:=qIn.addPlain 139 (qp qiu qn2 qlm qh0)
theorem qE0:Av.Good qJl:=qFR.fnP qlm qr7 qn2 qh0 2 8 (by kernel_rfl) (fun x=>by kernel_rfl) qwH
noncomputable def qI5:Ctx:=qJl.addPlain 108 (qp qho qnj qj7 qfp)
theorem qF5:Av.Good qI5:=qE0.fnP qj7 qq3 qnj qfp 2 8 (by kernel_rfl) (fun x=>by kernel_rfl) qvs
noncomputable def qIX:Ctx:=qI5.addPlain 105 (qp qip qeR qk0 q8)
theorem qFu:Av.Good qIX:=qF5.fnP qk0 qr6 qeR q8 2 8 (by kernel_rfl) (fun x=>by kernel_rfl) qwz
noncomputable def qJb:Ctx:=qIX.addLoop 160 3 qcY.toT.toLoop
theorem qFC:Av.Good qJb:=qFu.loopN qcY 2 8 (by kernel_rfl) (fun _ _=>rfl) (fun x y s m K=>by kernel_rfl) (fun x y s s' K e=>by kernel_rfl)
noncomputable def qJk:Ctx:=qJb.addPlain 160 (qp qgM qmu qjs qd2)
theorem qFd:Av.Good qJk:=qFC.fnP qjs qmp qmu qd2 2 8 (by kernel_rfl) (fun x=>by kernel_rfl) quN
noncomputable def qH9:Ctx:=qJk.addLoop 133 3 qd3.toT.toLoop
theorem qGB:Av.Good qH9:=qFd.loopN qd3 2 8 (by kernel_rfl) (fun _ _=>rfl) (fun x y s m K=>by kernel_rfl) (fun x y s s' K e=>by kernel_rfl)
noncomputable def qHH:Ctx:=qH9.addPlain 133 (qp qig qnW qkM qkC)
theorem qGx:Av.Good qHH:=qGB.fnP qkM qn4 qnW qkC 2 8 (by kernel_rfl) (fun x=>by kernel_rfl) qwF
noncomputable def qIp:Ctx:=qHH.addLoop 134 3 qec.toT.toLoop
theorem qFS:Av.Good qIp:=qGx.loopN qec 2 8 (by kernel_rfl) (fun _ _=>rfl) (fun x y s m K=>by kernel_rfl) (fun x y s s' K e=>by kernel_rfl)
noncomputable def qG6:Ctx:=qIp.addPlain 134 (qp qhW qoc qkz qli)
theorem qFV:Av.Good qG6:=qFS.fnP qkz qnT qoc qli 2 8 (by kernel_rfl) (fun x=>by kernel_rfl) qwy
noncomputable def qIL:Ctx:=qG6.addPlain 135 (qp qhZ qnO qkW qh6)
theorem qFw:Av.Good qIL:=qFV.fnP qkW qr5 qnO qh6 2 8 (by kernel_rfl) (fun x=>by kernel_rfl) qwA
noncomputable def qId:Ctx:=qIL.addPlain 136 (qp qio qn1 qkQ qij)
theorem qFQ:Av.Good qId:=qFw.fnP qkQ qsk qn1 qij 2 8 (by kernel_rfl) (fun x=>by kernel_rfl) qwN
noncomputable def qG4:Ctx:=qId.addPlain 137 (qp qi5 qoU qlJ qlE)
theorem qGz:Av.Good qG4:=qFQ.fnP qlJ qsH qoU qlE 2 8 (by kernel_rfl) (fun x=>by kernel_rfl) qxq
noncomputable def qHe:Ctx:=qG4.addPlain 138 (qp qia qnE qlo qkH)
theorem qFv:Av.Good qHe:=qGz.fnP qlo qr8 qnE qkH 2 8 (by kernel_rfl) (fun x=>by kernel_rfl) qwD
noncomputable def qJs:Ctx:=qHe.addPlain 131 (qp qh7 qoj qkK qkR)
theorem qFH:Av.Good qJs:=qFv.fnP qkK qr1 qoj qkR 2 8 (by kernel_rfl) (fun x=>by kernel_rfl) qwG
noncomputable def qJM:Ctx:=qJs.addPlain 132 (qp qim qnQ qkL qk1)
theorem qGw:Av.Good qJM:=qFH.fnP qkL qr4 qnQ qk1 2 8 (by kernel_rfl) (fun x=>by kernel_rfl) qwB
noncomputable def qIP:Ctx:=qJM.addPlain 96 (qp qhm qng qkb qep)
theorem qGm:Av.Good qIP:=qGw.fnP qkb qq2 qng qep 2 8 (by kernel_rfl) (fun x=>by kernel_rfl) qwc
noncomputable def qJt:Ctx:=qIP.addPlain 150 (qp qo5 quF qrX qjB)
theorem qFq:Av.Good qJt:=qGm.fnP qrX qrU quF qjB 2 8 (by kernel_rfl) (fun x=>by kernel_rfl) qJm
noncomputable def qHP:Ctx:=qJt.addPlain 130 (qp qgC qmt qjj qfa)
theorem qGi:Av.Good qHP:=qFq.fnP qjj qgs qmt qfa 2 8 (by kernel_rfl) (fun x=>by kernel_rfl) quP
noncomputable def qHa:Ctx:=qHP.addPlain 101 (qp qgI qmk qjz qea)
theorem qFF:Av.Good qHa:=qGi.fnP qjz qgH qmk qea 2 8 (by kernel_rfl) (fun x=>by kernel_rfl) qvj
noncomputable def qIs:Ctx:=qHa.addPlain 116 (qp qqX qv2 qte qe0)
theorem qF9:Av.Good qIs:=qFF.fnP qte qoB qv2 qe0 2 8 (by kernel_rfl) (fun x=>by kernel_rfl) qKi
noncomputable def qHl:Ctx:=qIs.addLoop 114 2 qkr.toT.toLoop
theorem qFz:Av.Good qHl:=qF9.loopN qkr 2 8 (by kernel_rfl) (fun _ _=>rfl) (fun x y s m K=>by kernel_rfl) (fun x y s s' K e=>by kernel_rfl)
noncomputable def qJx:Ctx:=qHl.addLoop 102 2 qek.toT.toLoop
theorem qFU:Av.Good qJx:=qFz.loopN qek 2 8 (by kernel_rfl) (fun _ _=>rfl) (fun x y s m K=>by kernel_rfl) (fun x y s s' K e=>by kernel_rfl)
noncomputable def qHi:Ctx:=qJx.addPlain 114 (qp qo6 qjC qrC qcr)
theorem qF1:Av.Good qHi:=qFU.fnP qrC qun qjC qcr 2 8 (by kernel_rfl) (fun x=>by kernel_rfl) qHm
noncomputable def qIv:Ctx:=qHi.addPlain 102 (qp qgk qgN qjn qg)
theorem qF7:Av.Good qIv:=qF1.fnP qjn qmD qgN qg 2 8 (by kernel_rfl) (fun x=>by kernel_rfl) quZ
noncomputable def qJf:Ctx:=qIv.addPlain 152 (qp qoe qgo qqz qjP)
theorem qE3:Av.Good qJf:=qF7.fnP qqz qtO qgo qjP 2 8 (by kernel_rfl) (fun x=>by kernel_rfl) qF6
noncomputable def qHM:Ctx:=qJf.addPlain 153 (qp qmQ qsC qpp qmS)
theorem qGA:Av.Good qHM:=qE3.fnP qpp qmL qsC qmS 2 8 (by kernel_rfl) (fun x=>by kernel_rfl) qA7
noncomputable def qIC:Ctx:=qHM.addPlain 154 (qp qse qwV quf qsg)
theorem qFE:Av.Good qIC:=qGA.fnP quf qsi qwV qsg 2 8 (by kernel_rfl) (fun x=>by kernel_rfl) qLq
noncomputable def qJE:Ctx:=qIC.addPlain 157 (qp qm2 qsn qpD qg3)
theorem qGs:Av.Good qJE:=qFE.fnP qpD qpe qsn qg3 2 8 (by kernel_rfl) (fun x=>by kernel_rfl) qCA
noncomputable def qGY:Ctx:=qJE.addPlain 104 (qp qgd ql5 qiR qbo)
theorem qFG:Av.Good qGY:=qGs.fnP qiR qfY ql5 qbo 2 8 (by kernel_rfl) (fun x=>by kernel_rfl) quE
noncomputable def qHK:Ctx:=qGY.addLoop 140 2 qe2.toT.toLoop
theorem qGr:Av.Good qHK:=qFG.loopN qe2 2 8 (by kernel_rfl) (fun _ _=>rfl) (fun x y s m K=>by kernel_rfl) (fun x y s s' K e=>by kernel_rfl)
noncomputable def qH3:Ctx:=qHK.addPlain 140 (qp qhX qdW qkO qf7)
theorem qFe:Av.Good qH3:=qGr.fnP qkO qoh qdW qf7 2 8 (by kernel_rfl) (fun x=>by kernel_rfl) qwQ
noncomputable def qJO:Ctx:=qH3.addPlain 118 (qp qo2 qo1 qrV qm5)
theorem qE5:Av.Good qJO:=qFe.fnP qrV qm8 qo1 qm5 2 8 (by kernel_rfl) (fun x=>by kernel_rfl) qI0
noncomputable def qH4:Ctx:=qJO.addPlain 91 (qp qnC qfz qqx qf)
theorem qFY:Av.Good qH4:=qE5.fnP qqx qnM qfz qf 2 8 (by kernel_rfl) (fun x=>by kernel_rfl) qE7
noncomputable def qG8:Ctx:=qH4.addPlain 107 (qp qgE qdt qjm qdo)
theorem qGk:Av.Good qG8:=qFY.fnP qjm qmy qdt qdo 2 8 (by kernel_rfl) (fun x=>by kernel_rfl) qvf
noncomputable def qIj:Ctx:=qG8.addPlain 75 (qp qf2 qiB qiI qi)
theorem qF2:Av.Good qIj:=qGk.fnP qiI qf8 qiB qi 2 8 (by kernel_rfl) (fun x=>by kernel_rfl) qux
noncomputable def qIt:Ctx:=qIj.addPlain 94 (qp qqK qe1 qsJ qbT)
theorem qE2:Av.Good qIt:=qF2.fnP qsJ qtd qe1 qbT 2 8 (by kernel_rfl) (fun x=>by kernel_rfl) qJ6
noncomputable def qGW:Ctx:=qIt.addPlain 93 (qp qnD qdR qp7 qdc)
theorem qFg:Av.Good qGW:=qE2.fnP qp7 qqf qdR qdc 2 8 (by kernel_rfl) (fun x=>by kernel_rfl) qGv
noncomputable def qH8:Ctx:=qGW.addPlain 78 (qp qhv qdF qkh qcs)
theorem qGE:Av.Good qH8:=qFg.fnP qkh qhk qdF qcs 2 8 (by kernel_rfl) (fun x=>by kernel_rfl) qvX
noncomputable def qHr:Ctx:=qH8.addPlain 77 (qp qf9 qlW qiv qdh)
theorem qFr:Av.Good qHr:=qGE.fnP qiv qlX qlW qdh 2 8 (by kernel_rfl) (fun x=>by kernel_rfl) quq
noncomputable def qJG:Ctx:=qHr.addPlain 58 (qp qlZ qrg qoC q7)
theorem qGa:Av.Good qJG:=qFr.fnP qoC qjG qrg q7 2 8 (by kernel_rfl) (fun x=>by kernel_rfl) qzw
noncomputable def qHn:Ctx:=qJG.addPlain 119 (qp qof qtJ qp2 qjH)
theorem qGp:Av.Good qHn:=qGa.fnP qp2 qqJ qtJ qjH 2 8 (by kernel_rfl) (fun x=>by kernel_rfl) qGF
noncomputable def qJP:Ctx:=qHn.addLoop 95 6 qlp.toT.toLoop
theorem qFt:Av.Good qJP:=qGp.loopN qlp 2 8 (by kernel_rfl) (fun _ _=>rfl) (fun x y s m K=>by kernel_rfl) (fun x y s s' K e=>by kernel_rfl)
noncomputable def qHb:Ctx:=qJP.addPlain 95 (qp qmK qiX qpa qX)
theorem qE9:Av.Good qHb:=qFt.fnP qpa qsz qiX qX 2 8 (by kernel_rfl) (fun x=>by kernel_rfl) qAA
noncomputable def qI6:Ctx:=qHb.addPlain 149 (qp qnJ qtI qqU qcP)
theorem qGu:Av.Good qI6:=qE9.fnP qqU qp5 qtI qcP 2 8 (by kernel_rfl) (fun x=>by kernel_rfl) qFN
noncomputable def qI7:Ctx:=qI6.addLoop 47 6 qhS.toT.toLoop
theorem qGC:Av.Good qI7:=qGu.loopN qhS 2 8 (by kernel_rfl) (fun _ _=>rfl) (fun x y s m K=>by kernel_rfl) (fun x y s s' K e=>by kernel_rfl)
noncomputable def qID:Ctx:=qI7.addBody 47 (qnu qga qf4 qjk ql7 qdz qI)
theorem qFA:Av.Good qID:=qGC.fnB qjk qmr qdz qI 2 8 (by kernel_rfl) (fun x y=>by kernel_rfl) quW
noncomputable def qGZ:Ctx:=qID.addBody 115 (qnu qfD qfC qiF qlD qdH qbf)
theorem qGo:Av.Good qGZ:=qFA.fnB qiF qlY qdH qbf 2 8 (by kernel_rfl) (fun x y=>by kernel_rfl) quJ
noncomputable def qIG:Ctx:=qGZ.addBody 48 (qnu qff qfe qhI qko qlA qei)
theorem qFb:Av.Good qIG:=qGo.fnB qhI qo3 qlA qei 2 8 (by kernel_rfl) (fun x y=>by kernel_rfl) qt0
noncomputable def qIr:Ctx:=qIG.addPlain 64 (qp qjI qpO qmq qbP)
theorem qFm:Av.Good qIr:=qFb.fnP qmq qjK qpO qbP 2 8 (by kernel_rfl) (fun x=>by kernel_rfl) qyj
noncomputable def qHU:Ctx:=qIr.addLoop 44 8 qma.toT.toLoop
theorem qGy:Av.Good qHU:=qFm.loopN qma 2 8 (by kernel_rfl) (fun _ _=>rfl) (fun x y s m K=>by kernel_rfl) (fun x y s s' K e=>by kernel_rfl)
noncomputable def qIS:Ctx:=qHU.addLoop 44 15 qkD.toT.toLoop
theorem qGJ:Av.Good qIS:=qGy.loopN qkD 2 8 (by kernel_rfl) (fun _ _=>rfl) (fun x y s m K=>by kernel_rfl) (fun x y s s' K e=>by kernel_rfl)
noncomputable def qI8:Ctx:=qIS.addPlain 161 (qp qmT qn qpt qa)
theorem qFM:Av.Good qI8:=qGJ.fnP qpt qpg qn qa 2 8 (by kernel_rfl) (fun x=>by kernel_rfl) qBs
noncomputable def qJN:Ctx:=qI8.addPlain 143 (qp qm1 qcC qpb qco)
theorem qFi:Av.Good qJN:=qFM.fnP qpb qpi qcC qco 2 8 (by kernel_rfl) (fun x=>by kernel_rfl) qCc
noncomputable def qDN:Ctx:=qJN.addPlain 162 (qp qkJ qcK qnq qb8)
theorem qBw:Av.Good qDN:=qFi.fnP qnq qln qcK qb8 2 8 (by kernel_rfl) (fun x=>by kernel_rfl) qyX
noncomputable def qDz:Ctx:=qDN.addLoop 181 2 qdS.toT.toLoop
theorem qBe:Av.Good qDz:=qBw.loopN qdS 2 8 (by kernel_rfl) (fun _ _=>rfl) (fun x y s m K=>by kernel_rfl) (fun x y s s' K e=>by kernel_rfl)
noncomputable def qD0:Ctx:=qDz.addPlain 181 (qp qmW qbj qpC qbL)
theorem qBF:Av.Good qD0:=qBe.fnP qpC qss qbj qbL 2 8 (by kernel_rfl) (fun x=>by kernel_rfl) qCo
noncomputable def qD8:Ctx:=qD0.addPlain 141 (qp qmZ qsA qpx qbv)
theorem qAI:Av.Good qD8:=qBF.fnP qpx qsE qsA qbv 2 8 (by kernel_rfl) (fun x=>by kernel_rfl) qBK
noncomputable def qDU:Ctx:=qD8.addPlain 142 (qp qk2 qgx qnA qdq)
theorem qAG:Av.Good qDU:=qAI.fnP qnA qiT qgx qdq 2 12 (by kernel_rfl) (fun x=>by kernel_rfl) qy1
noncomputable def qEg:Ctx:=qDU.addPlain 163 (qp qlS qhD qoM qdO)
theorem qAt:Av.Good qEg:=qAG.fnP qoM qjE qhD qdO 3 12 (by kernel_rfl) (fun x=>by kernel_rfl) qzS
noncomputable def qCP:Ctx:=qEg.addPlain 164 (qp qjN qfK qmg qda)
theorem qA0:Av.Good qCP:=qAt.fnP qmg qhH qfK qda 2 12 (by kernel_rfl) (fun x=>by kernel_rfl) qyk
noncomputable def qEr:Ctx:=qCP.addPlain 165 (qp qlM qhz qoL qdL)
theorem qA4:Av.Good qEr:=qA0.fnP qoL qjF qhz qdL 2 12 (by kernel_rfl) (fun x=>by kernel_rfl) qzK
noncomputable def qEx:Ctx:=qEr.addPlain 166 (qp qlk qgV qnv qdn)
theorem qCb:Av.Good qEx:=qA4.fnP qnv qiU qgV qdn 2 12 (by kernel_rfl) (fun x=>by kernel_rfl) qyM
noncomputable def qDc:Ctx:=qEx.addPlain 144 (qp qmP qkt qpm qiV)
theorem qBI:Av.Good qDc:=qCb.fnP qpm qks qkt qiV 2 12 (by kernel_rfl) (fun x=>by kernel_rfl) qBc
noncomputable def qDm:Ctx:=qDc.addPlain 112 (qp qk9 qiP qnt qH)
theorem qBr:Av.Good qDm:=qBI.fnP qnt qiS qiP qH 2 12 (by kernel_rfl) (fun x=>by kernel_rfl) qy0
noncomputable def qER:Ctx:=qDm.addPlain 122 (qp qhj qnn qkj qhl)
theorem qBV:Av.Good qER:=qBr.fnP qkj qfw qnn qhl 2 20 (by kernel_rfl) (fun x=>by kernel_rfl) qp6
noncomputable def qDu:Ctx:=qER.addLoop 126 3 qdA.toT.toLoop
theorem qB4:Av.Good qDu:=qBV.loopN qdA 2 8 (by kernel_rfl) (fun _ _=>rfl) (fun x y s m K=>by kernel_rfl) (fun x y s s' K e=>by kernel_rfl)
noncomputable def qD1:Ctx:=qDu.addPlain 126 (qp qgz qck qjo qZ)
theorem qAB:Av.Good qD1:=qB4.fnP qjo qja qck qZ 2 8 (by kernel_rfl) (fun x=>by kernel_rfl) qvd
noncomputable def qDE:Ctx:=qD1.addLoop 125 3 qeE.toT.toLoop
theorem qAX:Av.Good qDE:=qAB.loopN qeE 2 8 (by kernel_rfl) (fun _ _=>rfl) (fun x y s m K=>by kernel_rfl) (fun x y s s' K e=>by kernel_rfl)
noncomputable def qC2:Ctx:=qDE.addPlain 125 (qp qhh qb3 qkc qL)
theorem qBl:Av.Good qC2:=qAX.fnP qkc qhn qb3 qL 2 8 (by kernel_rfl) (fun x=>by kernel_rfl) qvI
noncomputable def qCL:Ctx:=qC2.addPlain 98 (qp qhu qb2 qkf qbt)
theorem qCx:Av.Good qCL:=qBl.fnP qkf qki qb2 qbt 2 8 (by kernel_rfl) (fun x=>by kernel_rfl) qvC
noncomputable def qCK:Ctx:=qCL.addPlain 97 (qp qhx qfo qj4 qcO)
theorem qBX:Av.Good qCK:=qCx.fnP qj4 qfv qfo qcO 2 8 (by kernel_rfl) (fun x=>by kernel_rfl) qvQ
noncomputable def qDY:Ctx:=qCK.addLoop 99 8 qcb.toT.toLoop
theorem qBG:Av.Good qDY:=qBX.loopN qcb 3 12 (by kernel_rfl) (fun _ _=>rfl) (fun x y s m K=>by kernel_rfl) (fun x y s s' K e=>by kernel_rfl)
noncomputable def qCV:Ctx:=qDY.addPlain 99 (qp qhr qdD qke qx)
theorem qBP:Av.Good qCV:=qBG.fnP qke qdE qdD qx 3 12 (by kernel_rfl) (fun x=>by kernel_rfl) qvK
noncomputable def qEP:Ctx:=qCV.addLoop 73 8 qbV.toT.toLoop
theorem qB5:Av.Good qEP:=qBP.loopN qbV 2 8 (by kernel_rfl) (fun _ _=>rfl) (fun x y s m K=>by kernel_rfl) (fun x y s s' K e=>by kernel_rfl)
noncomputable def qDb:Ctx:=qEP.addPlain 73 (qp qgc qez qiM qdP)
theorem qCp:Av.Good qDb:=qB5.fnP qiM qeC qez qdP 2 8 (by kernel_rfl) (fun x=>by kernel_rfl) quz
noncomputable def qDP:Ctx:=qDb.addPlain 88 (qp qoX qrI qrD qnb)
theorem qB8:Av.Good qDP:=qCp.fnP qrD qyp qrI qnb 2 8 (by kernel_rfl) (fun x=>by kernel_rfl) qIV
noncomputable def qDv:Ctx:=qDP.addPlain 10 (qp qk6 qqy qns qE)
theorem qBu:Av.Good qDv:=qB8.fnP qns qiQ qqy qE 2 8 (by kernel_rfl) (fun x=>by kernel_rfl) qy8
noncomputable def qC6:Ctx:=qDv.addBody 67 (qnu qfE qfF qix qlC qeG qiE)
theorem qBf:Av.Good qC6:=qBu.fnB qix ql3 qeG qiE 3 8 (by kernel_rfl) (fun x y=>by kernel_rfl) qus
noncomputable def qEo:Ctx:=qC6.addCut 89 5 qeg.toT.toLoop
theorem qCn:Av.Good qEo:=qBf.cutN qeg 2 8 (by kernel_rfl) (fun _ _=>rfl) (fun x y K=>by kernel_rfl)
noncomputable def qD5:Ctx:=qEo.addBody 66 (qnu qfd qfi qhQ qkm qlw qlB)
theorem qBm:Av.Good qD5:=qCn.fnB qhQ qo0 qlw qlB 2 8 (by kernel_rfl) (fun x y=>by kernel_rfl) qtX
noncomputable def qD9:Ctx:=qD5.addBody 23 (qnu qeu qex qgn qjA qeI qjU)
theorem qBT:Av.Good qD9:=qBm.fnB qgn qnG qeI qjU 3 8 (by kernel_rfl) (fun x y=>by kernel_rfl) qsU
noncomputable def qxD:Ctx:=qD9.addBody 24 (qnu qeM qeN qha qjJ qkp qkn)
theorem qvi:Av.Good qxD:=qBT.fnB qha qoR qkp qkn 3 8 (by kernel_rfl) (fun x y=>by kernel_rfl) qtL
noncomputable def qCU:Ctx:=qxD.addBody 46 (qzj qxD qeQ 8 4 46 68 139)
theorem qBS:Av.Good qCU:=qvi.addBody (qxN qvi (by kernel_rfl) 8 4) (by kernel_rfl)
noncomputable def qDT:Ctx:=qCU.addBody 46 (qnu qfc qfh qhJ qkq qc0 qy)
theorem qB6:Av.Good qDT:=qBS.fnB qhJ qls qc0 qy 2 8 (by kernel_rfl) (fun x y=>by kernel_rfl) qtZ
noncomputable def qDV:Ctx:=qDT.addLoop 21 2 qn3.toT.toLoop
theorem qBo:Av.Good qDV:=qB6.loopN qn3 3 8 (by kernel_rfl) (fun _ _=>rfl) (fun x y s m K=>by kernel_rfl) (fun x y s s' K e=>by kernel_rfl)
noncomputable def qEq:Ctx:=qDV.addBody 21 (qnu qeT qeJ qg8 qjS qhd qkk)
theorem qBq:Av.Good qEq:=qBo.fnB qg8 qkl qhd qkk 3 8 (by kernel_rfl) (fun x y=>by kernel_rfl) qtK
noncomputable def qDd:Ctx:=qEq.addPlain 83 (qp qsj qog qud qpR)
theorem qCy:Av.Good qDd:=qBq.fnP qud qok qog qpR 2 8 (by kernel_rfl) (fun x=>by kernel_rfl) qLO
noncomputable def qDa:Ctx:=qDd.addPlain 84 (qp qmU qsD qpq qce)
theorem qBH:Av.Good qDa:=qCy.fnP qpq qpk qsD qce 2 8 (by kernel_rfl) (fun x=>by kernel_rfl) qBM
noncomputable def qC9:Ctx:=qDa.addPlain 55 (qp qqI qe3 qtc qbi)
theorem qAs:Av.Good qC9:=qBH.fnP qtc qmB qe3 qbi 2 8 (by kernel_rfl) (fun x=>by kernel_rfl) qKa
noncomputable def qEN:Ctx:=qC9.addPlain 56 (qp qmY qsq qpj qdG)
theorem qAM:Av.Good qEN:=qAs.fnP qpj qkw qsq qdG 3 8 (by kernel_rfl) (fun x=>by kernel_rfl) qAv
noncomputable def qDr:Ctx:=qEN.addPlain 57 (qp qm3 qsG qpy qdm)
theorem qCC:Av.Good qDr:=qAM.fnP qpy qpo qsG qdm 2 20 (by kernel_rfl) (fun x=>by kernel_rfl) qB3
noncomputable def qEh:Ctx:=qDr.addLoop 32 7 qll.toT.toLoop
theorem qAy:Av.Good qEh:=qCC.loopN qll 3 8 (by kernel_rfl) (fun _ _=>rfl) (fun x y s m K=>by kernel_rfl) (fun x y s s' K e=>by kernel_rfl)
noncomputable def qEb:Ctx:=qEh.addPlain 32 (qp qmG qpd qpf qbE)
theorem qBt:Av.Good qEb:=qAy.fnP qpf qpA qpd qbE 4 8 (by kernel_rfl) (fun x=>by kernel_rfl) qCB
noncomputable def qCR:Ctx:=qEb.addCut 8 12 qi4.toT.toLoop
theorem qBi:Av.Good qCR:=qBt.cutN qi4 6 12 (by kernel_rfl) (fun _ _=>rfl) (fun x y K=>by kernel_rfl)
noncomputable def qES:Ctx:=qCR.addPlain 8 (qp qmI qsv qpB qc7)
theorem qB1:Av.Good qES:=qBi.fnP qpB qsu qsv qc7 6 12 (by kernel_rfl) (fun x=>by kernel_rfl) qAO
noncomputable def qDA:Ctx:=qES.addPlain 30 (qp qku qwn qsp qwt)
theorem qAC:Av.Good qDA:=qB1.addPlain (qOH ) (by kernel_rfl)
noncomputable def qDx:Ctx:=qDA.addLoop 31 3 qn0.toT.toLoop
theorem qCD:Av.Good qDx:=qAC.loopN qn0 2 8 (by kernel_rfl) (fun _ _=>rfl) (fun x y s m K=>by kernel_rfl) (fun x y s s' K e=>by kernel_rfl)
noncomputable def qC0:Ctx:=qDx.addPlain 31 (qp qjL qpG qmE qpJ)
theorem qCa:Av.Good qC0:=qCD.fnP qmE qmF qpG qpJ 2 8 (by kernel_rfl) (fun x=>by kernel_rfl) qyi
noncomputable def qDJ:Ctx:=qC0.addLoop 85 2 qd5.toT.toLoop
theorem qBR:Av.Good qDJ:=qCa.loopN qd5 3 8 (by kernel_rfl) (fun _ _=>rfl) (fun x y s m K=>by kernel_rfl) (fun x y s s' K e=>by kernel_rfl)
noncomputable def qCO:Ctx:=qDJ.addLoop 86 3 qdv.toT.toLoop
theorem qCl:Av.Good qCO:=qBR.loopN qdv 3 8 (by kernel_rfl) (fun _ _=>rfl) (fun x y s m K=>by kernel_rfl) (fun x y s s' K e=>by kernel_rfl)
noncomputable def qDf:Ctx:=qCO.addPlain 85 (qp ql2 qem qu6 qbN)
theorem qA6:Av.Good qDf:=qCl.fnP qu6 qrs qem qbN 3 8 (by kernel_rfl) (fun x=>by kernel_rfl) qAj
noncomputable def qEt:Ctx:=qDf.addPlain 86 (qp qii qeS qsf qcZ)
theorem qBv:Av.Good qEt:=qA6.fnP qsf qnP qeS qcZ 3 8 (by kernel_rfl) (fun x=>by kernel_rfl) qwO
noncomputable def qEH:Ctx:=qEt.addPlain 41 (qp qgB qmh qjb qbb)
theorem qCG:Av.Good qEH:=qBv.fnP qjb qgF qmh qbb 3 8 (by kernel_rfl) (fun x=>by kernel_rfl) qu7
noncomputable def qEl:Ctx:=qEH.addPlain 60 (qp qlb qci qnw qbD)
theorem qCq:Av.Good qEl:=qCG.fnP qnw qgg qci qbD 3 8 (by kernel_rfl) (fun x=>by kernel_rfl) qy3
noncomputable def qEi:Ctx:=qEl.addPlain 62 (qp qgU qbl qi9 qbn)
theorem qBA:Av.Good qEi:=qCq.fnP qi9 qe5 qbl qbn 3 8 (by kernel_rfl) (fun x=>by kernel_rfl) quX
noncomputable def qEU:Ctx:=qEi.addPlain 34 (qp qnL qtM qqN qU)
theorem qBE:Av.Good qEU:=qBA.fnP qqN qoa qtM qU 4 8 (by kernel_rfl) (fun x=>by kernel_rfl) qFJ
noncomputable def qEM:Ctx:=qEU.addPlain 38 (qp qi3 qoV qlH qj)
theorem qAD:Av.Good qEM:=qBE.fnP qlH qlG qoV qj 4 8 (by kernel_rfl) (fun x=>by kernel_rfl) qxx
noncomputable def qEW:Ctx:=qEM.addPlain 33 (qp qkY qqm qny qc3)
theorem qBY:Av.Good qEW:=qAD.fnP qny qiz qqm qc3 4 8 (by kernel_rfl) (fun x=>by kernel_rfl) qyJ
noncomputable def qDG:Ctx:=qEW.addPlain 37 (qp qgi qmi qjx qcU)
theorem qBa:Av.Good qDG:=qBY.fnP qjx qgr qmi qcU 4 8 (by kernel_rfl) (fun x=>by kernel_rfl) qvh
noncomputable def qDD:Ctx:=qDG.addPlain 35 (qp ql0 qrA qoH qeh)
theorem qAz:Av.Good qDD:=qBa.fnP qoH qow qrA qeh 4 8 (by kernel_rfl) (fun x=>by kernel_rfl) qz6
noncomputable def qCX:Ctx:=qDD.addPlain 16 (qp qgS qmx qqQ qmm)
theorem qAE:Av.Good qCX:=qAz.fnP qqQ qqb qmx qmm 6 500 (by kernel_rfl) (fun x=>by kernel_rfl) quQ
noncomputable def qEX:Ctx:=qCX.addPlain 36 (qp qlL qoI qoP qc1)
theorem qAZ:Av.Good qEX:=qAE.fnP qoP qry qoI qc1 4 8 (by kernel_rfl) (fun x=>by kernel_rfl) qzB
noncomputable def qCN:Ctx:=qEX.addLoop 17 11 qfW.toT.toLoop
theorem qBU:Av.Good qCN:=qAZ.loopN qfW 3 8 (by kernel_rfl) (fun _ _=>rfl) (fun x y s m K=>by kernel_rfl) (fun x y s s' K e=>by kernel_rfl)
noncomputable def qEO:Ctx:=qCN.addPlain 17 (qp qkI qlj qnr qgv)
theorem qAL:Av.Good qEO:=qBU.fnP qnr qqr qlj qgv 4 8 (by kernel_rfl) (fun x=>by kernel_rfl) qy6
noncomputable def qEI:Ctx:=qEO.addPlain 63 (qp qgG qml qji qb5)
theorem qBZ:Av.Good qEI:=qAL.fnP qji qqu qml qb5 2 8 (by kernel_rfl) (fun x=>by kernel_rfl) quO
noncomputable def qEy:Ctx:=qEI.addPlain 53 (qp qi8 qfk qlI qg0)
theorem qBx:Av.Good qEy:=qBZ.fnP qlI qgX qfk qg0 2 8 (by kernel_rfl) (fun x=>by kernel_rfl) qxt
noncomputable def qCQ:Ctx:=qEy.addPlain 81 (qp qfH qlx qhM qch)
theorem qAP:Av.Good qCQ:=qBx.fnP qhM qfB qlx qch 3 8 (by kernel_rfl) (fun x=>by kernel_rfl) qtW
noncomputable def qEn:Ctx:=qCQ.addLoop 109 6 qiD.toT.toLoop
theorem qAR:Av.Good qEn:=qAP.loopN qiD 2 8 (by kernel_rfl) (fun _ _=>rfl) (fun x y s m K=>by kernel_rfl) (fun x y s s' K e=>by kernel_rfl)
noncomputable def qDi:Ctx:=qEn.addPlain 109 (qp qhw qj5 qjZ qj3)
theorem qAN:Av.Good qDi:=qAR.fnP qjZ qno qj5 qj3 2 8 (by kernel_rfl) (fun x=>by kernel_rfl) qv8
noncomputable def qCZ:Ctx:=qDi.addPlain 79 (qp qhq qdg qj9 qcN)
theorem qCw:Av.Good qCZ:=qAN.fnP qj9 qnl qdg qcN 3 8 (by kernel_rfl) (fun x=>by kernel_rfl) qv3
noncomputable def qDR:Ctx:=qCZ.addLoop 80 2 qd1.toT.toLoop
theorem qAW:Av.Good qDR:=qCw.loopN qd1 3 8 (by kernel_rfl) (fun _ _=>rfl) (fun x y s m K=>by kernel_rfl) (fun x y s s' K e=>by kernel_rfl)
noncomputable def qEJ:Ctx:=qDR.addPlain 80 (qp qfO qdK qiO qey)
theorem qCg:Av.Good qEJ:=qAW.fnP qiO qiA qdK qey 3 8 (by kernel_rfl) (fun x=>by kernel_rfl) qum
noncomputable def qD6:Ctx:=qEJ.addLoop 51 6 qfV.toT.toLoop
theorem qAV:Av.Good qD6:=qCg.loopN qfV 3 8 (by kernel_rfl) (fun _ _=>rfl) (fun x y s m K=>by kernel_rfl) (fun x y s s' K e=>by kernel_rfl)
noncomputable def qCT:Ctx:=qD6.addPlain 51 (qp qht qdf qjY qbs)
theorem qCz:Av.Good qCT:=qAV.fnP qjY qka qdf qbs 3 8 (by kernel_rfl) (fun x=>by kernel_rfl) qwf
noncomputable def qEB:Ctx:=qCT.addLoop 52 4 qfg.toT.toLoop
theorem qBz:Av.Good qEB:=qCz.loopN qfg 3 8 (by kernel_rfl) (fun _ _=>rfl) (fun x y s m K=>by kernel_rfl) (fun x y s s' K e=>by kernel_rfl)
noncomputable def qCY:Ctx:=qEB.addPlain 52 (qp qf5 qdQ qiC qcq)
theorem qAQ:Av.Good qCY:=qBz.fnP qiC qiH qdQ qcq 3 8 (by kernel_rfl) (fun x=>by kernel_rfl) qur
noncomputable def qDM:Ctx:=qCY.addPlain 49 (qp qh4 qnI qkN qeL)
theorem qCm:Av.Good qDM:=qAQ.fnP qkN qhV qnI qeL 3 8 (by kernel_rfl) (fun x=>by kernel_rfl) qwS
noncomputable def qDp:Ctx:=qDM.addPlain 42 (qp qgT qmC qjc qcE)
theorem qAx:Av.Good qDp:=qCm.fnP qjc qjh qmC qcE 2 8 (by kernel_rfl) (fun x=>by kernel_rfl) qu5
noncomputable def qEf:Ctx:=qDp.addPlain 43 (qp qgj qd4 qjl qcV)
theorem qAT:Av.Good qEf:=qAx.fnP qjl qgP qd4 qcV 3 20 (by kernel_rfl) (fun x=>by kernel_rfl) qu0
noncomputable def qEQ:Ctx:=qEf.addPlain 19 (qp qgl qe4 qjt qd6)
theorem qBO:Av.Good qEQ:=qAT.fnP qjt qe6 qe4 qd6 3 8 (by kernel_rfl) (fun x=>by kernel_rfl) qvm
noncomputable def qDw:Ctx:=qEQ.addPlain 29 (qp qi2 qcR qlF qA)
theorem qCr:Av.Good qDw:=qBO.fnP qlF qgW qcR qA 2 8 (by kernel_rfl) (fun x=>by kernel_rfl) qxA
noncomputable def qD7:Ctx:=qDw.addPlain 15 (qp qgQ qdr qjd qR)
theorem qBn:Av.Good qD7:=qCr.fnP qjd qeZ qdr qR 4 8 (by kernel_rfl) (fun x=>by kernel_rfl) qu2
noncomputable def qEe:Ctx:=qD7.addOwn 72
theorem qB0:Av.Good qEe:=qBn.addOwn 72
noncomputable def qEY:Ctx:=qEe.addOwn 50
theorem qBb:Av.Good qEY:=qB0.addOwn 50
noncomputable def qEE:Ctx:=qEY.addOwn 26
theorem qBp:Av.Good qEE:=qBb.addOwn 26
noncomputable def qDF:Ctx:=qEE.addPlain 11 (qp qgy qmw qjw qb4)
theorem qCi:Av.Good qDF:=qBp.fnP qjw qgq qmw qb4 2 8 (by kernel_rfl) (fun x=>by kernel_rfl) qu8
noncomputable def qEK:Ctx:=qDF.addPlain 71 (qp qis qdX qkZ qbw)
theorem qAK:Av.Good qEK:=qCi.fnP qkZ qfT qdX qbw 2 8 (by kernel_rfl) (fun x=>by kernel_rfl) qwL
noncomputable def qDo:Ctx:=qEK.addBody 50 (qnu qgt qgh qde qdw qeq qbJ)
theorem qAU:Av.Good qDo:=qAK.fnB qde qeo qeq qbJ 4 8 (by kernel_rfl) (fun x y=>by kernel_rfl) qv5
noncomputable def qC8:Ctx:=qDo.addLoop 26 3 qcX.toT.toLoop
theorem qAS:Av.Good qC8:=qAU.loopN qcX 4 8 (by kernel_rfl) (fun _ _=>rfl) (fun x y s m K=>by kernel_rfl) (fun x y s s' K e=>by kernel_rfl)
noncomputable def qDH:Ctx:=qC8.addBody 26 (qnu qfS qfM qjg qmd qeY qcm)
theorem qB9:Av.Good qDH:=qAS.fnB qjg qd9 qeY qcm 4 8 (by kernel_rfl) (fun x y=>by kernel_rfl) quR
noncomputable def qET:Ctx:=qDH.addLoop 27 3 qdk.toT.toLoop
theorem qCk:Av.Good qET:=qB9.loopN qdk 4 8 (by kernel_rfl) (fun _ _=>rfl) (fun x y s m K=>by kernel_rfl) (fun x y s s' K e=>by kernel_rfl)
noncomputable def qDt:Ctx:=qET.addPlain 27 (qp qfU qeD qiG qdN)
theorem qAY:Av.Good qDt:=qCk.fnP qiG qdJ qeD qdN 4 8 (by kernel_rfl) (fun x=>by kernel_rfl) quI
noncomputable def qDe:Ctx:=qDt.addPlain 25 (qp qh8 qgb qlg qbY)
theorem qBj:Av.Good qDe:=qAY.fnP qlg qfX qgb qbY 4 20 (by kernel_rfl) (fun x=>by kernel_rfl) qwP
noncomputable def qEV:Ctx:=qDe.addPlain 9 (qp qh3 qdx qk8 qbZ)
theorem qB7:Av.Good qEV:=qBj.fnP qk8 qfP qdx qbZ 4 8 (by kernel_rfl) (fun x=>by kernel_rfl) qwI
noncomputable def qD3:Ctx:=qEV.addPlain 39 (qp qh1 qnY qlh qk7)
theorem qCF:Av.Good qD3:=qB7.fnP qlh qkP qnY qk7 4 8 (by kernel_rfl) (fun x=>by kernel_rfl) qwJ
noncomputable def qEF:Ctx:=qD3.addPlain 61 (qp qfR ql6 qiw qd)
theorem qCe:Av.Good qEF:=qCF.fnP qiw qiL ql6 qd 2 8 (by kernel_rfl) (fun x=>by kernel_rfl) quv
noncomputable def qDL:Ctx:=qEF.addPlain 40 (qp qit qeK qlc qeO)
theorem qCh:Av.Good qDL:=qCe.fnP qlc qfN qeK qeO 4 8 (by kernel_rfl) (fun x=>by kernel_rfl) qwx
noncomputable def qDB:Ctx:=qDL.addLoop 18 7 qeA.toT.toLoop
theorem qCt:Av.Good qDB:=qCh.loopN qeA 3 8 (by kernel_rfl) (fun _ _=>rfl) (fun x y s m K=>by kernel_rfl) (fun x y s s' K e=>by kernel_rfl)
noncomputable def qEG:Ctx:=qDB.addLoop 18 16 qel.toT.toLoop
theorem qBL:Av.Good qEG:=qCt.loopN qel 3 8 (by kernel_rfl) (fun _ _=>rfl) (fun x y s m K=>by kernel_rfl) (fun x y s s' K e=>by kernel_rfl)
noncomputable def qDs:Ctx:=qEG.addLoop 5 7 qcS.toT.toLoop
theorem qBk:Av.Good qDs:=qBL.loopN qcS 3 8 (by kernel_rfl) (fun _ _=>rfl) (fun x y s m K=>by kernel_rfl) (fun x y s s' K e=>by kernel_rfl)
noncomputable def qDj:Ctx:=qDs.addPlain 18 (qp qhp qfu qkd qcu)
theorem qBC:Av.Good qDj:=qBk.fnP qkd qfq qfu qcu 4 8 (by kernel_rfl) (fun x=>by kernel_rfl) qvA
noncomputable def qNd:Ctx:=qDj
theorem qJ2:Av.Good qNd:=qBC
end Go.Proofs.YtamnhodjidmlcaaGreat
end
section
namespace Go.Av
open Go
section
variable (op rd rn rm ra imm cond:Int) (w:Bool)
end
theorem qS4 (s:List UInt8) (k:Nat):hb (hx s k) 0=qfm s k:=by
 unfold hx
 rw[qtD,Nat.mod_eq_of_lt (qy4 s k)]
end Go.Av
end
