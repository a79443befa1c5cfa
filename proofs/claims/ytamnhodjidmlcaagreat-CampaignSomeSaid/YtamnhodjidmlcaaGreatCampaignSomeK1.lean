/- Texts of the proof, one behind the other. -/
import Derived.Test.YtamnhodjidmlcaaGreatAvClaim
section
namespace Go.Av
open Go
abbrev tI:Ty:=.int .i64
theorem qK {p:Prop} [Decidable p] (h:p):decide p=true:=decide_eq_true h
theorem qW {p:Prop} [Decidable p] (h:¬p):decide p=false:=decide_eq_false h
theorem qt {n:Int} (h1:-9223372036854775808≤n) (h2:n<9223372036854775808):w64 n=n:=wrap_i64 n h1 (by omega)
theorem inR {i n:Nat} (h:i<n):inRange (i:Int) n=true:=by
 simp[inRange]
 omega
theorem qhP {σ:Type} {turn:σ→PO (TL σ)} (st:Nat→σ) (r:Nat×σ) {n:Nat} (hon:∀i,i<n→(turn (st i)).val=some (.on (st (i+1)))) (hout:(turn (st n)).val=some (.out r.1 r.2)) :
  ∀(k i:Nat),i+k=n→∀f,k<f→qcF turn f (st i)=some r
 |0,i,h,f,hf=>by
  obtain⟨f,rfl⟩:∃g,f=g+1:=⟨f-1,by omega⟩
  have:i=n:=by omega
  subst this
  rw[qbg hout]
 |k+1,i,h,f,hf=>by
  obtain⟨f,rfl⟩:∃g,f=g+1:=⟨f-1,by omega⟩
  have hv:=hon i (by omega)
  rw[qcx hv]
  exact qhP st r hon hout k (i+1) (by omega) f (by omega)
theorem qhE {α:Type} (l:List α) (i:Nat) (d:α):l.getD (Int.toNat (i:Int)) d=l.getD i d:=by simp
theorem qgY {α:Type} (l:List α) (d:α) {i:Nat} (hi:i<l.length):l.getD i d=l[i]:=by
 rw[List.getD_eq_getElem?_getD,List.getElem?_eq_getElem hi];rfl
def qoD (l:List UInt8) (c:Int) (s:Bool×Int):PO (TL (Bool×Int)) :=
 (.ite (decide (s.2<qh l))
  (.ite (inRange s.2 (List.length l))
  (.ite (u8I (List.getD l (Int.toNat s.2) 0)==c)
   (.ret (.out 1 (true,s.2)))
   (.ret (.on (s.1,w64 (s.2+1)))))
  .fail)
  (.ret (.out 0 (s.1,s.2))))
theorem qHV (l:List UInt8) (c:Int) (hl:List.length l<4611686018427387904):∀(k i:Nat),i+k=l.length→∀f,k<f →
  ∃o st,qcF (qoD l c) f (false,(i:Int))=some (o,st)∧(PO.ite (way o) (.ret false) (.ret st.1)).val=some ((l.drop i).any fun b=>u8I b==c)
 |0,i,h,f,hf=>by
  obtain⟨f,rfl⟩:∃g,f=g+1:=⟨f-1,by omega⟩
  have e:(qoD l c (false,(i:Int))).val=some (.out 0 (false,(i:Int))):=by
   simp only[qoD,PO.val,qW (show ¬(i:Int)<qh l by simp only[qh];omega),cond_false]
  exact⟨0,_,qbg e,by rw[List.drop_of_length_le (by omega)];rfl⟩
 |k+1,i,h,f,hf=>by
  obtain⟨f,rfl⟩:∃g,f=g+1:=⟨f-1,by omega⟩
  have hi:i<l.length:=by omega
  have h1:decide ((i:Int)<qh l)=true:=qK (by simp only[qh];omega)
  rw[List.drop_eq_getElem_cons hi,List.any_cons]
  cases hb:(u8I l[i]==c)
  ·have e:(qoD l c (false,(i:Int))).val=some (.on (false,((i+1:Nat):Int))):=by
    simp only[qoD,PO.val,h1,inR hi,cond_true,qhE,qgY l _ hi,hb,cond_false]
    rw[qt (by omega) (by omega)]
    simp
   obtain⟨o,st,g1,g2⟩:=qHV l c hl k (i+1) (by omega) f (by omega)
   exact⟨o,st,(qcx e).trans g1,by rw[Bool.false_or];exact g2⟩
  ·have e:(qoD l c (false,(i:Int))).val=some (.out 1 (true,(i:Int))):=by
    simp only[qoD,PO.val,h1,inR hi,cond_true,qhE,qgY l _ hi,hb]
   exact⟨1,_,qbg e,rfl⟩
theorem qQg (l:List UInt8) (c:Int) (t:Bool×Int→PO (TL (Bool×Int))) (ht:∀s,t s=qoD l c s) (hl:List.length l<4611686018427387904) :
  ∃o st,qcF t (l.length+1) (false,0)=some (o,st)∧(PO.ite (way o) (.ret false) (.ret st.1)).val=some (l.any fun b=>u8I b==c):=by
 rw[show t=qoD l c from funext ht]
 exact qHV l c hl l.length 0 (by omega) _ (by omega)
theorem qQ9 (n:Int):w64 n=if 9223372036854775808≤n % 18446744073709551616 then n % 18446744073709551616-18446744073709551616 else n % 18446744073709551616:=by
 have h:w64 n=if(true&&decide (n % 18446744073709551616≥9223372036854775808))=true then n % 18446744073709551616-18446744073709551616 else n % 18446744073709551616:=rfl
 rw[h]
 simp only[Bool.true_and,decide_eq_true_eq,ge_iff_le]
theorem qRS (n:Int):IntKind.i32.wrap n=if 2147483648≤n % 4294967296 then n % 4294967296-4294967296 else n % 4294967296:=by
 have h:IntKind.i32.wrap n=if(true&&decide (n % 4294967296≥2147483648))=true then n % 4294967296-4294967296 else n % 4294967296:=rfl
 rw[h]
 simp only[Bool.true_and,decide_eq_true_eq,ge_iff_le]
theorem qe {α:Type} {b:Bool} {p q:PO α} (h:b=true):(PO.ite b p q).val=p.val:=by subst h;rfl
theorem qv {α:Type} {b:Bool} {p q:PO α} (h:b=false):(PO.ite b p q).val=q.val:=by subst h;rfl
theorem qdl {α β:Type} {o:Option β} {r:β} {k:β→PO α} (h:o=some r):(PO.opt o k).val=(k r).val:=by subst h;rfl
end Go.Av
end
section
namespace Go.Av
open Go
abbrev ql1:List Ty:=[(.int .i64),(.int .i64),(.int .i64)]
abbrev qoy:Sh:=Sh.ty Ty.bool
def qf3 (x:qc ql1):PO (Sh.den qoy) :=
 (.ret (decide (x.1≥x.2.1)&&decide (x.1≤x.2.2)))
def qrt (_:qc ql1):Bool:=true
def qcI (x:qc ql1):Sh.den qoy:=(qf3 x).qQ default
theorem qzh (x:qc ql1) (_:qrt x=true):(qf3 x).val=some (qcI x):=PO.qbS default (by simp[qf3,PO.sure])
abbrev qmV:List Ty:=[(.int .i64),(.int .i64)]
abbrev qpz:Sh:=Sh.ty Ty.bool
def qg5 (x:qc qmV):PO (Sh.den qpz) :=
 (.ite (x.2==-1)
  (.ret (x.1==0))
  (.ret (qcI (x.1,0,x.2))))
def qsF (_:qc qmV):Bool:=true
def qc5 (x:qc qmV):Sh.den qpz:=(qg5 x).qQ default
theorem qBg (x:qc qmV) (_:qsF x=true):(qg5 x).val=some (qc5 x):=PO.qbS default (by simp[qg5,PO.sure])
abbrev ql8:List Ty:=[(.int .i64)]
abbrev qox:Sh:=Sh.tup (Sh.pair (Sh.ty tOp) (Sh.pair (Sh.ty Ty.bool) (Sh.ty Ty.unit)))
def qcM (x:qc ql8):PO (Sh.den qox) :=
 (.ite (x==1)
  (.ret (((-1,-1,-1,-1,0,0,()),true,())))
  (.ite (x==2)
  (.ret (((-1,-1,-1,-1,0,255,()),true,())))
  (.ite (bif x==3 then x==3 else x==4)
   (.ret (((12,-1,-1,-1,0,65535,()),true,())))
   (.ite (x==5)
   (.ret (((12,-1,12,-1,0,31,()),true,())))
   (.ite (bif x==6 then x==6 else bif x==7 then x==7 else x==8)
    (.ret (((12,-1,12,-1,1,31,()),true,())))
    (.ite (x==9)
    (.ret (((12,-1,12,-1,0,0,()),true,())))
    (.ite (bif x==10 then x==10 else bif x==11 then x==11 else bif x==12 then x==12 else bif x==13 then x==13 else bif x==14 then x==14 else bif x==15 then x==15 else x==16)
     (.ret (((12,12,12,-1,0,0,()),true,())))
     (.ite (x==17)
     (.ret (((12,12,12,12,0,0,()),true,())))
     (.ite (x==18)
      (.ret (((12,12,-1,32,0,31,()),true,())))
      (.ite (bif x==19 then x==19 else bif x==20 then x==20 else bif x==21 then x==21 else x==22)
      (.ret (((7,7,-1,-1,0,0,()),true,())))
      (.ite (x==23)
       (.ret (((-1,7,7,-1,0,0,()),true,())))
       (.ret (((0,0,0,0,0,0,()),false,()))))))))))))))
def qrq (_:qc ql8):Bool:=true
def qbq (x:qc ql8):Sh.den qox:=(qcM x).qQ default
theorem qzs (x:qc ql8) (_:qrq x=true):(qcM x).val=some (qbq x):=PO.qbS default (by simp[qcM,PO.sure])
abbrev qmM:List Ty:=[(.int .i64),.bool]
abbrev qpw:Sh:=Sh.tup (Sh.pair (Sh.ty (Ty.int IntKind.i64)) (Sh.pair (Sh.ty (Ty.int IntKind.i64)) (Sh.ty Ty.unit)))
def qi0 (x:qc qmM):PO (Sh.den qpw) :=
 (.ite (x.1==24)
  (.ret ((w64 (0-bif x.2 then 16777216 else 2048),w64 ((bif x.2 then 16777216 else 2048)-2),())))
  (.ite (x.1==25)
  (.ret ((w64 (0-bif x.2 then 1048576 else 256),w64 ((bif x.2 then 1048576 else 256)-2),())))
  (.ret ((0,0,())))))
def qsr (_:qc qmM):Bool:=true
def qg7 (x:qc qmM):Sh.den qpw:=(qi0 x).qQ default
theorem qCu (x:qc qmM) (_:qsr x=true):(qi0 x).val=some (qg7 x):=PO.qbS default (by simp[qi0,PO.sure])
abbrev ql4:List Ty:=[qbd]
abbrev qop:Sh:=Sh.ty (Ty.int IntKind.i64)
def qhB (x:qc ql4):PO (Sh.den qop) :=
 (.ite (x.2.1 != 0||(x.2.2.1 != 0||(x.2.2.2.1 != 0||(x.2.2.2.2.1 != 0||bif x.1==24 then x.2.2.2.2.2.2.1 != 0||true else true))))
  (.ite (x.2.1 != 0||(x.2.2.1 != 0||(x.2.2.2.1 != 0||(x.2.2.2.2.1 != 0||bif x.1==24 then x.2.2.2.2.2.2.1 != 0||!qcI (x.2.2.2.2.2.2.1,0,13) else !qcI (x.2.2.2.2.2.2.1,0,13)))))
  (.ret (2))
  (.ite (qbC IntKind.i64 x.2.2.2.2.2.1 1 != 0||true)
   (.ite (qbC IntKind.i64 x.2.2.2.2.2.1 1 != 0||!qcI (x.2.2.2.2.2.1,(qg7 (x.1,x.2.2.2.2.2.2.2.1)).1,(qg7 (x.1,x.2.2.2.2.2.2.2.1)).2.1))
   (.ret (6))
   (.ret (0)))
   .fail))
  .fail)
def qrk (_:qc ql4):Bool:=true
def qhC (x:qc ql4):Sh.den qop:=(qhB x).qQ default
theorem qz9 (x:qc ql4) (_:qrk x=true):(qhB x).val=some (qhC x):=PO.qrr default (by simp[qhB,PO.qxz])
abbrev qmR:List Ty:=[qbd]
abbrev qpn:Sh:=Sh.ty (Ty.int IntKind.i64)
def qcB (x:qc qmR):PO (Sh.den qpn) :=
 (.ite (x.1==24||x.1==25)
  (.ret (qhC x))
  (.ite (!(qbq x.1).2.1||(x.2.2.2.2.2.2.2.1||(x.2.2.2.2.2.2.1 != 0||true)))
  (.ite (!(qbq x.1).2.1||(x.2.2.2.2.2.2.2.1||(x.2.2.2.2.2.2.1 != 0||!qcI (x.2.2.2.2.2.1,(qbq x.1).1.2.2.2.2.1,(qbq x.1).1.2.2.2.2.2.1))))
   (.ret (2))
   (.ite (!qc5 (x.2.1,(qbq x.1).1.1)||(!qc5 (x.2.2.1,(qbq x.1).1.2.1)||(!qc5 (x.2.2.2.1,(qbq x.1).1.2.2.1)||true)))
   (.ite (!qc5 (x.2.1,(qbq x.1).1.1)||(!qc5 (x.2.2.1,(qbq x.1).1.2.1)||(!qc5 (x.2.2.2.1,(qbq x.1).1.2.2.1)||!qc5 (x.2.2.2.2.1,(qbq x.1).1.2.2.2.1))))
    (.ret (2))
    (.ite (bif x.1==17 then x.2.2.2.2.1==x.2.1||(x.1==18||true) else x.1==18||true)
    (.ite (bif x.1==17 then x.2.2.2.2.1==x.2.1||x.1==18&&!qcI (x.2.2.2.2.1,1,w64 (32-x.2.2.2.2.2.1)) else x.1==18&&!qcI (x.2.2.2.2.1,1,w64 (32-x.2.2.2.2.2.1)))
     (.ret (2))
     (.ret (0)))
    .fail))
   .fail))
  .fail))
def qsB (_:qc qmR):Bool:=true
def qk (x:qc qmR):Sh.den qpn:=(qcB x).qQ default
theorem qB2 (x:qc qmR) (_:qsB x=true):(qcB x).val=some (qk x):=PO.qrr default (by simp[qcB,PO.qxz])
end Go.Av
end
section
namespace Go.Av
open Go
abbrev qhe:List Ty:=[(.int .i64)]
abbrev qkg:Sh:=Sh.ty Ty.str
def qfx (x:qc qhe):PO (Sh.den qkg) :=
 (.ite (x==13)
  (.ret ([49,49,49,48,49,48,49,48,49,48,48,48,110,110,110,110,48,48,48,48,100,100,100,100,48,48,48,48,109,109,109,109]))
  (.ite (x==14)
  (.ret ([49,49,49,48,49,48,49,49,48,48,48,48,110,110,110,110,48,48,48,48,100,100,100,100,48,48,48,48,109,109,109,109]))
  (.ite (x==15)
   (.ret ([49,49,49,48,49,48,49,49,49,48,49,48,110,110,110,110,48,48,48,48,100,100,100,100,48,48,48,48,109,109,109,109]))
   (.ite (x==16)
   (.ret ([49,49,49,49,49,48,49,49,48,48,48,48,110,110,110,110,49,49,49,49,100,100,100,100,48,48,48,48,109,109,109,109]))
   (.ite (x==17)
    (.ret ([49,49,49,49,49,48,49,49,49,48,49,48,110,110,110,110,100,100,100,100,97,97,97,97,48,48,48,48,109,109,109,109]))
    (.ite (x==18)
    (.ret ([49,49,49,49,48,48,49,49,48,49,49,48,110,110,110,110,48,69,68,67,100,100,100,100,66,65,48,119,119,119,119,119]))
    (.ite (x==19)
     (.ret ([48,49,49,48,49,48,48,48,48,48,110,110,110,100,100,100]))
     (.ite (x==20)
     (.ret ([48,49,49,48,48,48,48,48,48,48,110,110,110,100,100,100]))
     (.ite (x==21)
      (.ret ([48,49,49,49,49,48,48,48,48,48,110,110,110,100,100,100]))
      (.ite (x==22)
      (.ret ([48,49,49,49,48,48,48,48,48,48,110,110,110,100,100,100]))
      (.ite (x==23)
       (.ret ([48,49,48,48,48,48,49,48,49,48,109,109,109,110,110,110]))
       (.ite (x==24)
       (.ret ([49,49,49,48,48,76,75,74,73,72,71,70,69,68,67,66]))
       (.ite (x==25)
        (.ret ([49,49,48,49,99,99,99,99,73,72,71,70,69,68,67,66]))
        (.ret ([])))))))))))))))
def qnk (_:qc qhe):Bool:=true
def qfs (x:qc qhe):Sh.den qkg:=(qfx x).qQ default
theorem qwa (x:qc qhe) (_:qnk x=true):(qfx x).val=some (qfs x):=PO.qbS default (by simp[qfx,PO.sure])
abbrev qhi:List Ty:=[(.int .i64),.bool]
abbrev qj0:Sh:=Sh.ty Ty.str
def qft (x:qc qhi):PO (Sh.den qj0) :=
 (.ite (x.2)
  (.ite (x.1==24)
  (.ret ([49,49,49,49,48,89,86,85,84,83,82,81,80,79,78,77,49,48,120,49,121,76,75,74,73,72,71,70,69,68,67,66]))
  (.ite (x.1==25)
   (.ret ([49,49,49,49,48,85,99,99,99,99,82,81,80,79,78,77,49,48,83,48,84,76,75,74,73,72,71,70,69,68,67,66]))
   (.ret ([]))))
  (.ite (x.1==1)
  (.ret ([49,48,49,49,49,49,49,49,48,48,48,48,48,48,48,48]))
  (.ite (x.1==2)
   (.ret ([49,48,49,49,49,49,49,48,72,71,70,69,68,67,66,65]))
   (.ite (x.1==3)
   (.ret ([49,49,49,49,48,76,49,48,48,49,48,48,80,79,78,77,48,75,74,73,100,100,100,100,72,71,70,69,68,67,66,65]))
   (.ite (x.1==4)
    (.ret ([49,49,49,49,48,76,49,48,49,49,48,48,80,79,78,77,48,75,74,73,100,100,100,100,72,71,70,69,68,67,66,65]))
    (.ite (x.1==5)
    (.ret ([49,49,49,48,49,48,49,48,48,49,48,48,49,49,49,49,48,69,68,67,100,100,100,100,66,65,48,48,109,109,109,109]))
    (.ite (x.1==6)
     (.ret ([49,49,49,48,49,48,49,48,48,49,48,48,49,49,49,49,48,69,68,67,100,100,100,100,66,65,48,49,109,109,109,109]))
     (.ite (x.1==7)
     (.ret ([49,49,49,48,49,48,49,48,48,49,48,48,49,49,49,49,48,69,68,67,100,100,100,100,66,65,49,48,109,109,109,109]))
     (.ite (x.1==8)
      (.ret ([49,49,49,48,49,48,49,48,48,49,48,48,49,49,49,49,48,69,68,67,100,100,100,100,66,65,49,49,109,109,109,109]))
      (.ite (x.1==9)
      (.ret ([49,49,49,48,49,48,49,48,48,49,49,48,49,49,49,49,48,48,48,48,100,100,100,100,48,48,48,48,109,109,109,109]))
      (.ite (x.1==10)
       (.ret ([49,49,49,48,49,48,49,48,48,48,48,48,110,110,110,110,48,48,48,48,100,100,100,100,48,48,48,48,109,109,109,109]))
       (.ite (x.1==11)
       (.ret ([49,49,49,48,49,48,49,48,48,48,49,48,110,110,110,110,48,48,48,48,100,100,100,100,48,48,48,48,109,109,109,109]))
       (.ite (x.1==12)
        (.ret ([49,49,49,48,49,48,49,48,48,49,48,48,110,110,110,110,48,48,48,48,100,100,100,100,48,48,48,48,109,109,109,109]))
        (.ret (qfs x.1)))))))))))))))
def qnm (_:qc qhi):Bool:=true
def qb (x:qc qhi):Sh.den qj0:=(qft x).qQ default
theorem qvS (x:qc qhi) (_:qnm x=true):(qft x).val=some (qb x):=PO.qbS default (by simp[qft,PO.sure])
def qgL:LoopN where
 M:=[0,1,4,5]
 T:=[6,7,8,9,10,11,12,13,14,15,16]
 D:=[0,1,5]
 ss:=[.ty .str,.ty (.int .u8),.ty .bool,.ty (.int .i64)]
 hs:=[]
 es:=[.exit 0,.ret]
 σ:=(Ty.den .bool)×(Ty.den (.int .i64))
 x0:=fun x _=>(x.2.2.1,x.2.2.2)
 put:=fun x _ s=>((x.1,x.2.1,s.1,s.2),())
 fuel:=fun x _=>List.length x.1+1
 turn:=fun x _ s =>
 (.ite (decide (s.2<qh x.1))
  (.ite (inRange s.2 (List.length x.1))
  (.ite (u8I (List.getD x.1 (Int.toNat s.2) 0)==x.2.1)
   (.ret (.out 1 (true,s.2)))
   (.ret (.on (s.1,w64 (s.2+1)))))
  .fail)
  (.ret (.out 0 (s.1,s.2))))
abbrev qih:List Ty:=[.str,(.int .u8)]
abbrev qkE:Sh:=Sh.ty Ty.bool
def qom (x:qc qih):PO (Sh.den qkE) :=
 (.opt (LoopN.res qgL (x.1,x.2,false,0) ()) fun p0 =>
  (.ite (way p0.1)
  (.ret (false))
  (.ret (p0.2.1))))
def qin (x:qc qih):Bool:=decide (List.length x.1<4611686018427387904)
def qh5 (x:qc qih):Sh.den qkE:=List.any x.1 fun b=>u8I b==x.2
theorem qwR (x:qc qih) (h:qin x=true):(qom x).val=some (qh5 x):=by
 obtain⟨s,c⟩:=x
 have hs:List.length s<4611686018427387904:=of_decide_eq_true h
 obtain⟨o,st,h1,h2⟩:=qQg s c (qgL.turn (s,c,false,0) ()) (fun _=>rfl) hs
 have h1':LoopN.res qgL (s,c,false,0) ()=some (o,st):=h1
 unfold qom PO.val
 rw[h1']
 exact h2
abbrev qh9:List Ty:=[.str,(.int .u8),(.int .i64)]
abbrev qkx:Sh:=Sh.ty Ty.bool
def qf0 (x:qc qh9):PO (Sh.den qkx) :=
 (.ite (qin (x.1,x.2.1))
  (.ite (!qh5 (x.1,x.2.1))
  (.ret (x.2.2==0))
  (.ret (decide (x.2.2≥0)&&decide (x.2.2≤bif qh x.1==16 then 7 else 12))))
  .fail)
def qds (x:qc qh9):Bool:=(qf0 x).val.isSome
def qcp (x:qc qh9):Sh.den qkx:=(qf0 x).qQ default
theorem qwE (x:qc qh9) (h:qds x=true):(qf0 x).val=some (qcp x):=PO.qb7 default h
abbrev qgJ:List Ty:=[(.int .i64),.bool]
abbrev qjp:Sh:=Sh.tup (Sh.pair (Sh.ty (Ty.int IntKind.i64)) (Sh.pair (Sh.ty (Ty.int IntKind.i64)) (Sh.ty Ty.unit)))
def qgD (x:qc qgJ):PO (Sh.den qjp) :=
 (.ret ((w64 (0-bif x.1==24&&!x.2 then 2048 else bif x.1==24 then 16777216 else bif x.1==25&&!x.2 then 256 else bif x.1==25 then 1048576 else 0),imax 0 (w64 ((bif x.1==24&&!x.2 then 2048 else bif x.1==24 then 16777216 else bif x.1==25&&!x.2 then 256 else bif x.1==25 then 1048576 else 0)-2)),())))
def qmo (_:qc qgJ):Bool:=true
def qdy (x:qc qgJ):Sh.den qjp:=(qgD x).qQ default
theorem quS (x:qc qgJ) (_:qmo x=true):(qgD x).val=some (qdy x):=PO.qbS default (by simp[qgD,PO.sure])
abbrev qfQ:List Ty:=[qbd]
abbrev qiy:Sh:=Sh.ty Ty.bool
def qge (x:qc qfQ):PO (Sh.den qiy) :=
 (.ite (x.1==2)
  (.ret (decide (x.2.2.2.2.2.1≥0)&&decide (x.2.2.2.2.2.1≤255)))
  (.ite (bif x.1==3 then x.1==3 else x.1==4)
  (.ret (decide (x.2.2.2.2.2.1≥0)&&decide (x.2.2.2.2.2.1≤65535)))
  (.ite (bif x.1==5 then x.1==5 else x.1==18)
   (.ret (decide (x.2.2.2.2.2.1≥0)&&decide (x.2.2.2.2.2.1≤31)))
   (.ite (bif x.1==6 then x.1==6 else bif x.1==7 then x.1==7 else x.1==8)
   (.ret (decide (x.2.2.2.2.2.1≥1)&&decide (x.2.2.2.2.2.1≤31)))
   (.ite (bif x.1==24 then x.1==24 else x.1==25)
    (.ret (true))
    (.ret (decide (x.2.2.2.2.2.1≥0)&&decide (x.2.2.2.2.2.1≤0))))))))
def qlQ (_:qc qfQ):Bool:=true
def qeF (x:qc qfQ):Sh.den qiy:=(qge x).qQ default
theorem quA (x:qc qfQ) (_:qlQ x=true):(qge x).val=some (qeF x):=PO.qbS default (by simp[qge,PO.sure])
abbrev qgK:List Ty:=[qbd]
abbrev qjq:Sh:=Sh.ty (Ty.int IntKind.i64)
def qfb (x:qc qgK):PO (Sh.den qjq) :=
 (.ite (qb (x.1,x.2.2.2.2.2.2.2.1)==[]||(!qeF x||qds (qb (x.1,x.2.2.2.2.2.2.2.1),100,x.2.1)&&(!qcp (qb (x.1,x.2.2.2.2.2.2.2.1),100,x.2.1)||qds (qb (x.1,x.2.2.2.2.2.2.2.1),110,x.2.2.1)&&(!qcp (qb (x.1,x.2.2.2.2.2.2.2.1),110,x.2.2.1)||qds (qb (x.1,x.2.2.2.2.2.2.2.1),109,x.2.2.2.1)&&(!qcp (qb (x.1,x.2.2.2.2.2.2.2.1),109,x.2.2.2.1)||qds (qb (x.1,x.2.2.2.2.2.2.2.1),97,bif x.1==18 then 0 else x.2.2.2.2.1))))))
  (.ite (qb (x.1,x.2.2.2.2.2.2.2.1)==[]||(!qeF x||(!qcp (qb (x.1,x.2.2.2.2.2.2.2.1),100,x.2.1)||(!qcp (qb (x.1,x.2.2.2.2.2.2.2.1),110,x.2.2.1)||(!qcp (qb (x.1,x.2.2.2.2.2.2.2.1),109,x.2.2.2.1)||!qcp (qb (x.1,x.2.2.2.2.2.2.2.1),97,bif x.1==18 then 0 else x.2.2.2.2.1))))))
  (.ret (2))
  (.ite (bif x.1==18 then decide (x.2.2.2.2.1<1)||(decide (x.2.2.2.2.1 > w64 (32-x.2.2.2.2.2.1))||x.1==17&&x.2.2.2.2.1==x.2.1) else x.1==17&&x.2.2.2.2.1==x.2.1)
   (.ret (2))
   (.ite (bif x.1==25 then decide (x.2.2.2.2.2.2.1<0)||(decide (x.2.2.2.2.2.2.1 > 13)||x.1 != 25&&x.2.2.2.2.2.2.1 != 0) else x.1 != 25&&x.2.2.2.2.2.2.1 != 0)
   (.ret (2))
   (.ite (bif x.1==24 then Int.tmod x.2.2.2.2.2.1 2 != 0||(decide (x.2.2.2.2.2.1<(qdy (x.1,x.2.2.2.2.2.2.2.1)).1)||decide (x.2.2.2.2.2.1 > (qdy (x.1,x.2.2.2.2.2.2.2.1)).2.1)) else x.1==25&&(Int.tmod x.2.2.2.2.2.1 2 != 0||(decide (x.2.2.2.2.2.1<(qdy (x.1,x.2.2.2.2.2.2.2.1)).1)||decide (x.2.2.2.2.2.1 > (qdy (x.1,x.2.2.2.2.2.2.2.1)).2.1))))
    (.ret (6))
    (.ret (0))))))
  .fail)
def qbz (x:qc qgK):Bool:=(qfb x).val.isSome
def qo (x:qc qgK):Sh.den qjq:=(qfb x).qQ default
theorem quT (x:qc qgK) (h:qbz x=true):(qfb x).val=some (qo x):=PO.qb7 default h
end Go.Av
end
section
namespace Go.Av
open Go
theorem qgO (n:Int):n=1∨n=2∨n=3∨n=4∨n=5∨n=6∨n=7∨n=8∨n=9∨n=10∨n=11∨n=12∨n=13∨n=14∨n=15∨n=16∨n=17∨n=18∨n=19∨n=20∨n=21∨n=22∨n=23∨n=24∨n=25∨(n<1∨25<n):=by omega
theorem qpQ {n k:Int} (h:n<1∨25<n) (hk:1≤k∧k≤25):(n==k)=false:=by
 rw[beq_eq_false_iff_ne]
 omega
theorem qr2 {n:Int} (h:n<1∨25<n) (w:Bool):qb (n,w)=[]:=by
 have e:=fun k hk=>qpQ (n:=n) (k:=k) h hk
 cases w<;>simp[qb,qft,qfs,qfx,PO.qQ,PO.val,e]
theorem qOd (n:Int) (w:Bool):(qb (n,w)).length≤32:=by
 rcases qgO n with rfl |rfl |rfl |rfl |rfl |rfl |rfl |rfl |rfl |rfl |rfl |rfl |rfl |rfl |rfl |rfl |rfl |rfl |rfl |rfl |rfl |rfl |rfl |rfl |rfl |h
 case inr.inr.inr.inr.inr.inr.inr.inr.inr.inr.inr.inr.inr.inr.inr.inr.inr.inr.inr.inr.inr.inr.inr.inr.inr=>rw[qr2 h];simp
 all_goals (cases w<;>decide)
theorem qRG (n:Int) (w:Bool) (c:Int):qin (qb (n,w),c)=true:=by
 have:=qOd n w
 exact qK (show List.length (qb (n,w))<_ by omega)
theorem qKH (n:Int) (w:Bool) (c r:Int):(qf0 (qb (n,w),c,r)).val=some (bif List.any (qb (n,w)) (fun b=>u8I b==c) then decide (r≥0)&&decide (r≤bif (qh (qb (n,w))==16) then 7 else 12) else r==0):=by
 simp only[qf0,PO.val,qh5]
 rw[qRG]
 cases List.any (qb (n,w)) (fun b=>u8I b==c)<;>rfl
theorem qr9 (n:Int) (w:Bool) (c r:Int):qds (qb (n,w),c,r)=true:=by
 rw[qds,qKH];rfl
theorem qAr (n:Int) (w:Bool) (c r:Int):qcp (qb (n,w),c,r)=(bif List.any (qb (n,w)) (fun b=>u8I b==c) then decide (r≥0)&&decide (r≤bif (qh (qb (n,w))==16) then 7 else 12) else r==0):=by
 rw[qcp,PO.qQ,qKH];rfl
theorem qNp {α:Type} (b:Bool) (x y:Option α) (hx:x.isSome=true) (hy:y.isSome=true):(bif b then x else y).isSome=true:=by
 cases b<;>assumption
theorem qtE (x:qbd.den):qbz x=true:=by
 obtain⟨op,rd,rn,rm,ra,imm,cond,w,u⟩:=x
 unfold qbz qfb
 simp only[PO.val]
 rw[qr9,qr9,qr9,qr9]
 simp only[Bool.or_true,Bool.and_true,cond_true]
 repeat' (first|rfl |apply qNp)
theorem qNR (n:Int):(qbC .i64 n 1 != 0)=(Int.tmod n 2 != 0):=by
 have h:qbC .i64 n 1=n % 2:=qjW n 1 (by omega)
 rw[h,Bool.eq_iff_iff]
 simp only[bne_iff_ne,ne_eq]
 exact not_congr ((Int.dvd_iff_emod_eq_zero (a:=2) (b:=n)).symm.trans Int.dvd_iff_tmod_eq_zero)
theorem qt4 (imm:Int) (h1:0≤imm) (h2:imm≤31):w64 (32-imm)=32-imm:=qt (by omega) (by omega)
set_option maxHeartbeats 4000000 in
theorem qoK (x:qbd.den):qk x=qo x:=by
 obtain⟨op,rd,rn,rm,ra,imm,cond,w,u⟩:=x
 have hw:=qt4 imm
 have w1:w64 (-2048)=-2048:=rfl
 have w2:w64 2046=2046:=rfl
 have w3:w64 (-16777216)=-16777216:=rfl
 have w4:w64 16777214=16777214:=rfl
 have w5:w64 (-256)=-256:=rfl
 have w6:w64 254=254:=rfl
 have w7:w64 (-1048576)=-1048576:=rfl
 have w8:w64 1048574=1048574:=rfl
 have m1:imax 0 2046=2046:=rfl
 have m2:imax 0 16777214=16777214:=rfl
 have m3:imax 0 254=254:=rfl
 have m4:imax 0 1048574=1048574:=rfl
 unfold qo qfb
 dsimp only[PO.qQ,PO.val]
 rw[qr9,qr9,qr9,qr9,qAr,qAr,qAr,qAr]
 rcases qgO op with rfl |rfl |rfl |rfl |rfl |rfl |rfl |rfl |rfl |rfl |rfl |rfl |rfl |rfl |rfl |rfl |rfl |rfl |rfl |rfl |rfl |rfl |rfl |rfl |rfl |hop
 case inr.inr.inr.inr.inr.inr.inr.inr.inr.inr.inr.inr.inr.inr.inr.inr.inr.inr.inr.inr.inr.inr.inr.inr.inr =>
  rw[qr2 hop]
  have e:=fun k hk=>qpQ (n:=op) (k:=k) hop hk
  simp[qk,qcB,qbq,qcM,PO.qQ,PO.val,e]
 all_goals
  cases w <;>
  simp[qb,qft,qfs,qfx,qk,qcB,qbq,qcM,qc5,qg5,qcI,qf3,PO.qQ,PO.val,qeF,qge,u8I,qh,qhC,qhB,qg7,qi0,qdy,qgD,qNR,w1,w2,w3,w4,w5,w6,w7,w8,m1,m2,m3,m4]<;>grind
end Go.Av
end
section
namespace Go.Av
open Go
def wn (n:Int):Nat:=(n % 4294967296).toNat
theorem qlN (n:Int):(wn n:Int)=n % 4294967296:=by unfold wn;omega
theorem qdB (n:Int):wn n<4294967296:=by unfold wn;omega
theorem qgp {k:Nat} (h:k<4294967296):wn (k:Int)=k:=by unfold wn;omega
theorem quc (n:Int):wn (wn n:Int)=wn n:=qgp (qdB n)
theorem qP7 (n:Int):qbC .i64 n 4294967295=n % 4294967296:=qjW n 32 (by omega)
theorem qQf (n:Int):qbC .i64 n 31=n % 32:=qjW n 5 (by omega)
theorem qvu (n:Int):qbC .i64 n 1=n % 2:=qjW n 1 (by omega)
theorem qTe (n:Int):n % 18446744073709551616 % 4294967296=n % 4294967296:=Int.emod_emod_of_dvd n (by decide)
theorem qlR (n:Int):w64 n % 4294967296=n % 4294967296:=by
 rw[qQ9];split<;>omega
theorem qve (n:Nat):wn (w64 (n:Int))=n % 4294967296:=by unfold wn;rw[qlR];omega
theorem qkA (n:Int):(BitVec.ofInt 64 n).toNat % 4294967296=wn n:=by
 have:=qrK 64 n
 unfold wn
 omega
abbrev qoZ:List Ty:=[(.int .i64)]
abbrev qrM:Sh:=Sh.ty (Ty.int IntKind.i64)
def qyl (x:qc qoZ):PO (Sh.den qrM) :=
 (.ret (qbC IntKind.i64 x 4294967295))
def quB (_:qc qoZ):Bool:=true
def qbc (x:qc qoZ):Sh.den qrM:=(wn x:Int)
theorem qI4 (x:qc qoZ) (_:quB x=true):(qyl x).val=some (qbc x):=by
 show some _=some _
 rw[qP7,qbc,qlN]
def kk (n:Int):Nat:=(n % 32).toNat
theorem qNl (n:Int):(kk n:Int)=n % 32:=by unfold kk;omega
theorem qs3 (n:Int):kk n<32:=by unfold kk;omega
abbrev qo4:List Ty:=[(.int .i64)]
abbrev qrR:Sh:=Sh.ty (Ty.int IntKind.i64)
def qyu (x:qc qo4):PO (Sh.den qrR) :=
 (.ret (qbC IntKind.i64 x 31))
def qul (_:qc qo4):Bool:=true
def qdj (x:qc qo4):Sh.den qrR:=(kk x:Int)
theorem qHO (x:qc qo4) (_:qul x=true):(qyu x).val=some (qdj x):=by
 show some _=some _
 rw[qQf,qdj,qNl]
abbrev qqp:List Ty:=[(.int .i64),(.int .i64)]
abbrev qs2:Sh:=Sh.ty (Ty.int IntKind.i64)
def qzx (x:qc qqp):PO (Sh.den qs2) :=
 (.ret (qbc (w64 (x.1+x.2))))
def qvD (_:qc qqp):Bool:=true
def qjr (x:qc qqp):Sh.den qs2:=(wn (x.1+x.2):Int)
theorem qKb (x:qc qqp) (_:qvD x=true):(qzx x).val=some (qjr x):=by
 show some _=some _
 rw[qbc,qjr,qlN,qlN,qlR]
abbrev qp4:List Ty:=[(.int .i64),(.int .i64)]
abbrev qtb:Sh:=Sh.ty (Ty.int IntKind.i64)
def qzL (x:qc qp4):PO (Sh.den qtb) :=
 (.ret (qbc (w64 (x.1-x.2))))
def qwe (_:qc qp4):Bool:=true
def qje (x:qc qp4):Sh.den qtb:=(wn (x.1-x.2):Int)
theorem qJ5 (x:qc qp4) (_:qwe x=true):(qzL x).val=some (qje x):=by
 show some _=some _
 rw[qbc,qje,qlN,qlN,qlR]
abbrev qlU:List Ty:=[(.int .i64),(.int .i64)]
abbrev qot:Sh:=Sh.ty (Ty.int IntKind.u64)
def qvo (x:qc qlU):PO (Sh.den qot) :=
 (.ret (IntKind.wrap IntKind.u64 (IntKind.wrap IntKind.u64 (qbc x.1)*IntKind.wrap IntKind.u64 (qbc x.2))))
def qrp (_:qc qlU):Bool:=true
def qf6 (x:qc qlU):Sh.den qot:=((wn x.1*wn x.2:Nat):Int)
theorem qAn (x:qc qlU) (_:qrp x=true):(qvo x).val=some (qf6 x):=by
 show some _=some _
 have h1:=qdB x.1
 have h2:=qdB x.2
 have h3:wn x.1*wn x.2≤4294967295*4294967295:=Nat.mul_le_mul (by omega) (by omega)
 rw[qf6]
 simp only[qbc,qtU]
 rw[Int.emod_eq_of_lt (a:=(wn x.1:Int)) (by omega) (by omega),Int.emod_eq_of_lt (a:=(wn x.2:Int)) (by omega) (by omega)]
 have e:(wn x.1:Int)*(wn x.2:Int)=((wn x.1*wn x.2:Nat):Int):=by simp
 rw[e,Int.emod_eq_of_lt (by omega) (by omega)]
theorem qxU {a b:Int} (h:a % 4294967296=b % 4294967296):wn a=wn b:=by unfold wn;rw[h]
theorem qzi (a b:Int):wn a*wn b≤18446744065119617025:=by
 have h1:=qdB a
 have h2:=qdB b
 exact Nat.mul_le_mul (show wn a≤4294967295 by omega) (show wn b≤4294967295 by omega)
theorem qn8 {m:Nat} (h:m<18446744073709551616):(BitVec.ofInt 64 (m:Int)).toNat=m:=by
 have:=qrK 64 m
 omega
theorem qNZ {m:Nat} (h:m<18446744073709551616):qbC .u64 (m:Int) 4294967295=((m % 4294967296:Nat):Int):=by
 show IntKind.u64.wrap (BitVec.ofInt 64 (m:Int) &&& BitVec.ofInt 64 4294967295).toNat=_
 rw[BitVec.toNat_and,qn8 h,show(BitVec.ofInt 64 4294967295).toNat=2 ^ 32-1 from by decide,Nat.and_two_pow_sub_one_eq_mod,qtU]
 omega
theorem qNg (a b:Int):wn (qbC .i64 a b)=wn a &&& wn b:=by
 show wn (w64 (BitVec.ofInt 64 a &&& BitVec.ofInt 64 b).toNat)=_
 rw[qve,BitVec.toNat_and,show(4294967296:Nat)=2 ^ 32 from rfl,Nat.and_mod_two_pow,←qkA a,←qkA b]
theorem qSD (a b:Int):wn (bor .i64 a b)=wn a |||wn b:=by
 show wn (w64 (BitVec.ofInt 64 a |||BitVec.ofInt 64 b).toNat)=_
 rw[qve,BitVec.toNat_or,show(4294967296:Nat)=2 ^ 32 from rfl,Nat.or_mod_two_pow,←qkA a,←qkA b]
theorem qSa (a b:Int):wn (qie .i64 a b)=wn a ^^^ wn b:=by
 show wn (w64 (BitVec.ofInt 64 a ^^^ BitVec.ofInt 64 b).toNat)=_
 rw[qve,BitVec.toNat_xor,show(4294967296:Nat)=2 ^ 32 from rfl,Nat.xor_mod_two_pow,←qkA a,←qkA b]
theorem qRK (a:Int):wn (qlP .i64 a)=4294967295-wn a:=by
 have e:qlP .i64 a=w64 (BitVec.ofInt 64 (-1) ^^^ BitVec.ofInt 64 a).toNat:=by
  unfold qlP
  rw[if_pos (by rfl)]
  rfl
 rw[e,show BitVec.ofInt 64 (-1)=BitVec.allOnes 64 from by decide,BitVec.allOnes_xor,qve,BitVec.toNat_not,←qkA a]
 have:=(BitVec.ofInt 64 a).isLt
 omega
theorem qPD (a b:Int):wn (qef .i64 a b)=wn a &&& (4294967295-wn b):=by
 show wn (w64 (BitVec.ofInt 64 a &&& ~~~(BitVec.ofInt 64 b)).toNat)=_
 rw[qve,BitVec.toNat_and,show(4294967296:Nat)=2 ^ 32 from rfl,Nat.and_mod_two_pow,BitVec.toNat_not,←qkA a,←qkA b]
 have:=(BitVec.ofInt 64 b).isLt
 congr 1
 omega
theorem qrh (a:Int) (k:Nat) (hk:k≤64):qC .i64 a (k:Int)=w64 (a*2 ^ k):=by
 unfold qC
 have:min (k:Int).toNat IntKind.i64.bits=k:=by simp[IntKind.bits];omega
 rw[this]
theorem qeU {k n:Nat} (h:k≤n):2 ^ k≤2 ^ n:=Nat.pow_le_pow_right (by omega) h
theorem qIW (a:Nat) (k:Nat) (hk:k≤64):wn (qC .i64 (a:Int) (k:Int))=a*2 ^ k % 4294967296:=by
 rw[qrh _ _ hk,show(a:Int)*2 ^ k=((a*2 ^ k:Nat):Int) by simp,qve]
abbrev qqE:List Ty:=[(.int .i64),(.int .i64)]
abbrev qsP:Sh:=Sh.ty (Ty.int IntKind.i64)
def qAi (x:qc qqE):PO (Sh.den qsP) :=
 (.ret (w64 (qbC IntKind.u64 (qf6 (x.1,x.2)) 4294967295)))
def qwb (_:qc qqE):Bool:=true
def qld (x:qc qqE):Sh.den qsP:=((wn x.1*wn x.2 % 4294967296:Nat):Int)
theorem qJ3 (x:qc qqE) (_:qwb x=true):(qAi x).val=some (qld x):=by
 show some _=some _
 have h:=qzi x.1 x.2
 simp only[qf6,qld]
 rw[qNZ (by omega),qt (by omega) (by omega)]
abbrev qo8:List Ty:=[(.int .i64),(.int .i64)]
abbrev qrF:Sh:=Sh.ty (Ty.int IntKind.i64)
def qyz (x:qc qo8):PO (Sh.den qrF) :=
 (.ret (w64 (qba IntKind.u64 (qf6 (x.1,x.2)) 32)))
def quG (_:qc qo8):Bool:=true
def qm6 (x:qc qo8):Sh.den qrF:=((wn x.1*wn x.2 / 4294967296:Nat):Int)
theorem qIb (x:qc qo8) (_:quG x=true):(qyz x).val=some (qm6 x):=by
 show some _=some _
 have h:=qzi x.1 x.2
 simp only[qf6,qm6]
 have e:qba .u64 ((wn x.1*wn x.2:Nat):Int) 32=((wn x.1*wn x.2 / 4294967296:Nat):Int):=by
  unfold qba
  rw[show min (32:Int).toNat IntKind.u64.bits=32 from rfl,Int.fdiv_eq_ediv_of_nonneg _ (by omega)]
  omega
 rw[e,qt (by omega) (by omega)]
abbrev qp9:List Ty:=[(.int .i64)]
abbrev qs1:Sh:=Sh.ty (Ty.int IntKind.i64)
def qz8 (x:qc qp9):PO (Sh.den qs1) :=
 (.ret (qbc (qlP IntKind.i64 x)))
def qvr (_:qc qp9):Bool:=true
def qjf (x:qc qp9):Sh.den qs1:=((4294967295-wn x:Nat):Int)
theorem qKn (x:qc qp9) (_:qvr x=true):(qz8 x).val=some (qjf x):=by
 show some _=some _
 rw[qbc,qjf,qRK]
abbrev qqG:List Ty:=[(.int .i64),(.int .i64)]
abbrev qs6:Sh:=Sh.ty (Ty.int IntKind.i64)
def qzF (x:qc qqG):PO (Sh.den qs6) :=
 (.ret (qbc (qbC IntKind.i64 x.1 x.2)))
def qvF (_:qc qqG):Bool:=true
def qle (x:qc qqG):Sh.den qs6:=((wn x.1 &&& wn x.2:Nat):Int)
theorem qJT (x:qc qqG) (_:qvF x=true):(qzF x).val=some (qle x):=by
 show some _=some _
 rw[qbc,qle,qNg]
abbrev qrZ:List Ty:=[(.int .i64),(.int .i64)]
abbrev qt5:Sh:=Sh.ty (Ty.int IntKind.i64)
def qDh (x:qc qrZ):PO (Sh.den qt5) :=
 (.ret (qbc (bor IntKind.i64 x.1 x.2)))
def qxH (_:qc qrZ):Bool:=true
def qk5 (x:qc qrZ):Sh.den qt5:=((wn x.1 |||wn x.2:Nat):Int)
theorem qLI (x:qc qrZ) (_:qxH x=true):(qDh x).val=some (qk5 x):=by
 show some _=some _
 rw[qbc,qk5,qSD]
abbrev qqV:List Ty:=[(.int .i64),(.int .i64)]
abbrev qs0:Sh:=Sh.ty (Ty.int IntKind.i64)
def qz2 (x:qc qqV):PO (Sh.den qs0) :=
 (.ret (qbc (qie IntKind.i64 x.1 x.2)))
def qvE (_:qc qqV):Bool:=true
def qhR (x:qc qqV):Sh.den qs0:=((wn x.1 ^^^ wn x.2:Nat):Int)
theorem qKg (x:qc qqV) (_:qvE x=true):(qz2 x).val=some (qhR x):=by
 show some _=some _
 rw[qbc,qhR,qSa]
abbrev qp1:List Ty:=[(.int .i64),(.int .i64)]
abbrev qsR:Sh:=Sh.ty (Ty.int IntKind.i64)
def qAa (x:qc qp1):PO (Sh.den qsR) :=
 (.ite (!decide (qdj x.2<0)&&true)
  (.ret (qbc (qC IntKind.i64 (qbc x.1) (qdj x.2))))
  .fail)
def qvU (_:qc qp1):Bool:=true
def qoE (x:qc qp1):Sh.den qsR:=((wn x.1*2 ^ kk x.2 % 4294967296:Nat):Int)
theorem qJV (x:qc qp1) (_:qvU x=true):(qAa x).val=some (qoE x):=by
 obtain⟨a,n⟩:=x
 have hk:=qs3 n
 have hd:decide ((kk n:Int)<0)=false:=qW (by omega)
 show(bif !decide ((kk n:Int)<0)&&true then some ((wn (qC .i64 (wn a:Int) (kk n:Int)):Nat):Int) else none)=some ((wn a*2 ^ kk n % 4294967296:Nat):Int)
 rw[hd,qIW _ _ (by omega)]
 rfl
abbrev qqW:List Ty:=[(.int .i64),(.int .i64)]
abbrev qsM:Sh:=Sh.ty (Ty.int IntKind.i64)
def qzJ (x:qc qqW):PO (Sh.den qsM) :=
 (.ite (!decide (qdj x.2<0))
  (.ret (qba IntKind.i64 (qbc x.1) (qdj x.2)))
  .fail)
def qqF (_:qc qqW):Bool:=true
def qkV (x:qc qqW):Sh.den qsM:=((wn x.1 / 2 ^ kk x.2:Nat):Int)
theorem qKm (x:qc qqW) (_:qqF x=true):(qzJ x).val=some (qkV x):=by
 obtain⟨a,n⟩:=x
 have hk:=qs3 n
 have hd:decide ((kk n:Int)<0)=false:=qW (by omega)
 show(bif !decide ((kk n:Int)<0) then some (qba .i64 (wn a:Int) (kk n:Int)) else none)=some ((wn a / 2 ^ kk n:Nat):Int)
 rw[hd,qnX _ _ (by omega)]
 simp
abbrev qqS:List Ty:=[(.int .i64),(.int .i64)]
abbrev qsO:Sh:=Sh.ty (Ty.int IntKind.i64)
def qzv (x:qc qqS):PO (Sh.den qsO) :=
 (.ite (!decide (qdj x.2<0)&&true)
  (.ret (qbc (qba IntKind.i64 (w64 (IntKind.wrap IntKind.i32 (IntKind.wrap IntKind.u32 (qbc x.1)))) (qdj x.2))))
  .fail)
def sw (m:Nat):Int:=if 2147483648≤m then(m:Int)-4294967296 else m
def qvO (_:qc qqS):Bool:=true
def qqM (x:qc qqS):Sh.den qsO:=(wn (sw (wn x.1) / (2 ^ kk x.2:Nat)):Int)
theorem qKs (x:qc qqS) (_:qvO x=true):(qzv x).val=some (qqM x):=by
 obtain⟨a,n⟩:=x
 have hk:=qs3 n
 have hl:=qdB a
 have e:w64 (IntKind.i32.wrap (IntKind.u32.wrap (wn a:Int)))=sw (wn a):=by
  rw[qN6,qRS,Int.emod_emod_of_dvd _ (by decide),Int.emod_eq_of_lt (by omega) (by omega)]
  unfold sw
  split
  ·rw[if_pos (by omega),qt (by omega) (by omega)]
  ·rw[if_neg (by omega),qt (by omega) (by omega)]
 have hd:decide ((kk n:Int)<0)=false:=qW (by omega)
 show(bif !decide ((kk n:Int)<0)&&true then some ((wn (qba .i64 (w64 (IntKind.i32.wrap (IntKind.u32.wrap (wn a:Int)))) (kk n:Int)):Nat):Int) else none)=some ((wn (sw (wn a) / (2 ^ kk n:Nat)):Nat):Int)
 rw[hd,e,qnX _ _ (by omega)]
 rfl
abbrev qqc:List Ty:=[(.int .i64),(.int .i64)]
abbrev qsY:Sh:=Sh.ty (Ty.int IntKind.i64)
def qzO (x:qc qqc):PO (Sh.den qsY) :=
 (.ite (qqF (x.1,x.2)&&(!decide (w64 (32-qdj x.2)<0)&&true))
  (.ret (qk5 (qkV (x.1,x.2),qbc (qC IntKind.i64 (qbc x.1) (w64 (32-qdj x.2))))))
  .fail)
def qv4 (_:qc qqc):Bool:=true
def qqj (x:qc qqc):Sh.den qsY:=((wn x.1 / 2 ^ kk x.2+wn x.1 % 2 ^ kk x.2*2 ^ (32-kk x.2):Nat):Int)
theorem qPN (m k:Nat) (hm:m<4294967296) (hk:k<32):m / 2 ^ k |||m*2 ^ (32-k) % 4294967296=m / 2 ^ k+m % 2 ^ k*2 ^ (32-k):=by
 have h0:2 ^ 32=2 ^ k*2 ^ (32-k):=by rw[←Nat.pow_add];congr 1;omega
 have h1:m*2 ^ (32-k) % 4294967296=m % 2 ^ k*2 ^ (32-k):=by
  rw[show(4294967296:Nat)=2 ^ 32 from rfl,h0,Nat.mul_mod_mul_right]
 have h2:m / 2 ^ k<2 ^ (32-k):=by
  rw[Nat.div_lt_iff_lt_mul (Nat.two_pow_pos k),Nat.mul_comm,←h0]
  omega
 rw[h1,Nat.or_comm,Nat.mul_comm (m % 2 ^ k),←Nat.two_pow_add_eq_or_of_lt h2,Nat.add_comm]
theorem qKe (x:qc qqc) (_:qv4 x=true):(qzO x).val=some (qqj x):=by
 obtain⟨a,n⟩:=x
 have hk:=qs3 n
 have hl:=qdB a
 have e1:w64 (32-(kk n:Int))=((32-kk n:Nat):Int):=by
  rw[qt (by omega) (by omega)];omega
 have hd:decide (w64 (32-(kk n:Int))<0)=false:=qW (by rw[e1];omega)
 have h1:wn a / 2 ^ kk n<4294967296:=Nat.lt_of_le_of_lt (Nat.div_le_self _ _) hl
 show(bif true&&(!decide (w64 (32-(kk n:Int))<0)&&true) then some ((wn ((wn a / 2 ^ kk n:Nat):Int) |||wn ((wn (qC .i64 (wn a:Int) (w64 (32-(kk n:Int)))):Nat):Int):Nat):Int) else none)=some ((wn a / 2 ^ kk n+wn a % 2 ^ kk n*2 ^ (32-kk n):Nat):Int)
 rw[hd,e1,qIW _ _ (by omega),qgp h1,qgp (Nat.mod_lt _ (by omega)),qPN _ _ hl hk]
 rfl
abbrev qm0:List Ty:=[(.int .i64),(.int .i64),(.int .i64)]
abbrev qpr:Sh:=Sh.ty (Ty.int IntKind.i64)
def qwl (x:qc qm0):PO (Sh.den qpr) :=
 (.ret (qk5 (qbC IntKind.i64 x.2.1 x.1,qef IntKind.i64 x.2.2 x.1)))
def qsw (_:qc qm0):Bool:=true
def qmJ (x:qc qm0):Sh.den qpr:=(((wn x.2.1 &&& wn x.1) |||(wn x.2.2 &&& (4294967295-wn x.1)):Nat):Int)
theorem qAu (x:qc qm0) (_:qsw x=true):(qwl x).val=some (qmJ x):=by
 show some _=some _
 rw[qk5,qmJ,qNg,qPD]
abbrev qqY:List Ty:=[(.int .i64),(.int .i64)]
abbrev qs9:Sh:=Sh.ty (Ty.int IntKind.i64)
def qzD (x:qc qqY):PO (Sh.den qs9) :=
 (.ite (qqF (x.1,x.2))
  (.ret (qbC IntKind.i64 (qkV (x.1,x.2)) 1))
  .fail)
def qvR (_:qc qqY):Bool:=true
def qoG (x:qc qqY):Sh.den qs9:=((wn x.1 / 2 ^ kk x.2 % 2:Nat):Int)
theorem qKd (x:qc qqY) (_:qvR x=true):(qzD x).val=some (qoG x):=by
 show some _=some _
 simp only[qkV,qoG]
 rw[qvu]
 simp
abbrev qhf:List Ty:=[(.int .i64)]
abbrev qj2:Sh:=Sh.ty (Ty.int IntKind.i64)
def qq4 (x:qc qhf):PO (Sh.den qj2) :=
 (.ret (w64 (Int.tmod (IntKind.wrap IntKind.u64 x) 4294967296)))
def qnh (_:qc qhf):Bool:=true
def qq (x:qc qhf):Sh.den qj2:=(wn x:Int)
theorem qvy (x:qc qhf) (_:qnh x=true):(qq4 x).val=some (qq x):=by
 show some _=some _
 have h1:(0:Int)≤x % 18446744073709551616:=Int.emod_nonneg _ (by omega)
 rw[qtU,qmv _ _ h1,qTe,qq,qlN]
 exact congrArg some (qt (by omega) (by omega))
abbrev qhg:List Ty:=[(.int .i64)]
abbrev qj6:Sh:=Sh.ty (Ty.int IntKind.i64)
def qq1 (x:qc qhg):PO (Sh.den qj6) :=
 (.ret (w64 (Int.tmod (IntKind.wrap IntKind.u64 x) 32)))
def qnf (_:qc qhg):Bool:=true
def qN (x:qc qhg):Sh.den qj6:=(kk x:Int)
theorem qv1 (x:qc qhg) (_:qnf x=true):(qq1 x).val=some (qN x):=by
 show some _=some _
 have h1:(0:Int)≤x % 18446744073709551616:=Int.emod_nonneg _ (by omega)
 have h2:x % 18446744073709551616 % 32=x % 32:=Int.emod_emod_of_dvd x (by decide)
 rw[qtU,qmv _ _ h1,h2,qN,qNl]
 exact congrArg some (qt (by omega) (by omega))
def qcG:LoopN where
 M:=[0,3,4]
 T:=[5,6,7,8,9,10,11]
 D:=[0,4]
 ss:=[.ty (.int .i64),.ty (.int .i64),.ty (.int .i64)]
 hs:=[]
 es:=[.exit 0]
 σ:=(Ty.den (.int .i64))×(Ty.den (.int .i64))
 x0:=fun x _=>(x.2.1,x.2.2)
 put:=fun x _ s=>((x.1,s.1,s.2),())
 fuel:=fun x _=>Int.toNat x.1+1
 turn:=fun x _ s =>
 (.ite (decide (s.2<x.1))
  (.ret (.on (w64 (s.1*2),w64 (s.2+1))))
  (.ret (.out 0 (s.1,s.2))))
abbrev qgu:List Ty:=[(.int .i64)]
abbrev qju:Sh:=Sh.ty (Ty.int IntKind.i64)
def qjy (x:qc qgu):PO (Sh.den qju) :=
 (.opt (LoopN.res qcG (x,1,0) ()) fun p0 =>
  (.ret (p0.2.1)))
def qb6 (x:qc qgu):Bool:=decide ((x:Int)≤62)
def qbh (x:qc qgu):Sh.den qju:=((2 ^ Int.toNat x:Nat):Int)
theorem qNk (n:Nat) (hn:n≤62):qcF (qcG.turn ((n:Int),1,0) ()) (n+1) (1,0)=some (0,((2 ^ n:Nat):Int),(n:Int)):=by
 refine qhP (σ:=Int×Int) (fun i=>(((2 ^ i:Nat):Int),(i:Int))) (0,((2 ^ n:Nat):Int),(n:Int)) (n:=n) (fun i hi=>?_) ?_ n 0 (by omega) _ (by omega)
 ·have h1:decide ((i:Int)<(n:Int))=true:=qK (by omega)
  have h2:2 ^ (i+1)≤2 ^ 62:=qeU (by omega)
  have h3:((2 ^ i:Nat):Int)*2=((2 ^ (i+1):Nat):Int):=by rw[Nat.pow_succ];simp
  simp only[qcG,PO.val,h1,cond_true]
  rw[h3]
  generalize 2 ^ (i+1)=q at h2 ⊢
  rw[qt (by omega) (by omega),qt (by omega) (by omega)]
  rfl
 ·simp only[qcG,PO.val,qW (show ¬(n:Int)<(n:Int) by omega),cond_false]
theorem qMH (x:Int) (hx:x≤62):(qjy x).val=some (((2 ^ Int.toNat x:Nat):Int)):=by
 unfold qjy PO.val
 by_cases hneg:x<0
 ·have e:Int.toNat x=0:=by omega
  have:LoopN.res qcG (x,1,0) ()=some (0,(1:Int),(0:Int)):=by
   show qcF _ (Int.toNat x+1) (1,0)=_
   rw[e]
   refine qbg ?_
   simp only[qcG,PO.val,qW (show ¬(0:Int)<x by omega),cond_false]
  rw[this,e]
  rfl
 ·obtain⟨n,rfl⟩:∃n:Nat,x=(n:Int):=⟨Int.toNat x,by omega⟩
  have:LoopN.res qcG ((n:Int),1,0) ()=some (0,((2 ^ n:Nat):Int),(n:Int)):=by
   show qcF _ (Int.toNat (n:Int)+1) (1,0)=_
   rw[Int.toNat_natCast]
   exact qNk n (by omega)
  rw[this]
  rfl
theorem qvp (x:qc qgu) (h:qb6 x=true):(qjy x).val=some (qbh x):=qMH x (of_decide_eq_true h)
end Go.Av
end
section
namespace Go.Av
open Go
abbrev q6:Ty:=.pair (.int .i64) (.pair (.int .i64) (.pair (.int .i64) (.pair (.int .i64) .unit)))
theorem qrb {k:Nat} (h:k<9223372036854775808):w64 (k:Int)=k:=qt (by omega) (by omega)
def qqk (n from_ many at_:Int):Nat:=(n / (2 ^ from_.toNat:Nat) % (2 ^ many.toNat:Nat)).toNat*2 ^ at_.toNat
def qtv (p:q6.den):Bool:=(decide (0≤p.2.1)&&decide (p.2.1<64))&&((decide (0≤p.2.2.1)&&decide (p.2.2.1≤32))&&(decide (0≤p.2.2.2.1)&&decide (p.2.2.2.1≤16)))
def qqo (p:q6.den):Nat:=qqk p.1 p.2.1 p.2.2.1 p.2.2.2.1
theorem qth {a b:Nat} (ha:a<9223372036854775808) (hb:b<9223372036854775808):bor .i64 (a:Int) (b:Int)=((a |||b:Nat):Int):=by
 show w64 (BitVec.ofInt 64 (a:Int) |||BitVec.ofInt 64 (b:Int)).toNat=_
 rw[BitVec.toNat_or,qn8 (by omega),qn8 (by omega)]
 have:a |||b<2 ^ 63:=Nat.or_lt_two_pow ha hb
 exact qt (by omega) (by omega)
theorem qm9 (n:Int) (k:Nat):0≤n % (2 ^ k:Nat)∧n % (2 ^ k:Nat)<(2 ^ k:Nat):=by
 have:=Nat.two_pow_pos k
 exact⟨Int.emod_nonneg _ (by omega),Int.emod_lt_of_pos _ (by omega)⟩
theorem qKx (n f:Int) {m a:Nat} (hm:m≤32) (ha:a≤16):qqk n f (m:Int) (a:Int)<281474976710656:=by
 unfold qqk
 rw[Int.toNat_natCast,Int.toNat_natCast]
 have h:=qm9 (n / (2 ^ f.toNat:Nat)) m
 have h1:(n / (2 ^ f.toNat:Nat) % (2 ^ m:Nat)).toNat<2 ^ m:=by omega
 have h2:2 ^ m≤2 ^ 32:=qeU hm
 have h3:2 ^ a≤2 ^ 16:=qeU ha
 have h4:=Nat.mul_lt_mul_of_lt_of_le (Nat.lt_of_lt_of_le h1 h2) h3 (by omega)
 exact h4
theorem qQS (n:Int) {f m a:Nat} (hf:f<64) (hm:m≤32) (ha:a≤16):qC .i64 (qbC .i64 (qba .i64 n (f:Int)) (w64 (qC .i64 1 (m:Int)-1))) (a:Int)=(qqk n (f:Int) (m:Int) (a:Int):Int):=by
 have hl:=qKx n (f:Int) hm ha
 have h1:2 ^ m≤2 ^ 32:=qeU hm
 have h2:qC .i64 1 (m:Int)=((2 ^ m:Nat):Int):=by
  rw[qrh _ _ (by omega),Int.one_mul,show(2:Int) ^ m=((2 ^ m:Nat):Int) by simp]
  exact qrb (by omega)
 have hp:=Nat.two_pow_pos m
 have h3:w64 (((2 ^ m:Nat):Int)-1)=((2 ^ m:Nat):Int)-1:=by
  generalize 2 ^ m=q at *
  exact qt (by omega) (by omega)
 rw[h2,h3,qnX _ _ hf,qjW _ _ (by omega),qrh _ _ (by omega)]
 unfold qqk at hl ⊢
 rw[Int.toNat_natCast,Int.toNat_natCast,Int.toNat_natCast] at *
 have h:=qm9 (n / (2 ^ f:Nat)) m
 obtain⟨q,hq⟩:∃q:Nat,n / (2 ^ f:Nat) % (2 ^ m:Nat)=(q:Int):=⟨(n / (2 ^ f:Nat) % (2 ^ m:Nat)).toNat,by omega⟩
 rw[hq] at hl ⊢
 rw[Int.toNat_natCast] at hl ⊢
 rw[show(q:Int)*2 ^ a=((q*2 ^ a:Nat):Int) by simp]
 exact qt (by omega) (by omega)
theorem qfj (p:q6.den) (h:qtv p=true):qC .i64 (qbC .i64 (qba .i64 p.1 p.2.1) (w64 (qC .i64 1 p.2.2.1-1))) p.2.2.2.1=(qqo p:Int)∧qqo p<281474976710656∧decide (p.2.1<0)=false∧decide (p.2.2.1<0)=false∧decide (p.2.2.2.1<0)=false:=by
 obtain⟨n,f,m,a,u⟩:=p
 simp only[qtv,Bool.and_eq_true,decide_eq_true_eq] at h
 obtain⟨⟨h1,h2⟩,⟨h3,h4⟩,h5,h6⟩:=h
 dsimp only[Ty.den] at *
 obtain⟨f,rfl⟩:=Int.eq_ofNat_of_zero_le h1
 obtain⟨m,rfl⟩:=Int.eq_ofNat_of_zero_le h3
 obtain⟨a,rfl⟩:=Int.eq_ofNat_of_zero_le h5
 exact⟨qQS n (by omega) (by omega) (by omega),qKx n _ (by omega) (by omega),qW (by omega),qW (by omega),qW (by omega)⟩
theorem qhF {b:Nat} (p:q6.den) (h:qtv p=true) (hb:b<281474976710656):bor .i64 (b:Int) (qC .i64 (qbC .i64 (qba .i64 p.1 p.2.1) (w64 (qC .i64 1 p.2.2.1-1))) p.2.2.2.1)=((b |||qqo p:Nat):Int)∧b |||qqo p<281474976710656:=by
 obtain⟨h1,h2,_⟩:=qfj p h
 exact⟨by rw[h1,qth (by omega) (by omega)],Nat.or_lt_two_pow (n:=48) hb h2⟩
abbrev qoY:List Ty:=[(.int .i64),(.sl q6)]
abbrev qrB:Sh:=Sh.ty (Ty.int IntKind.i64)
def qjD (x:qc qoY):PO (Sh.den qrB) :=
 (.ite (decide (0<qh x.2))
  (.ite (inRange 0 (List.length x.2))
  (.ite (!decide ((List.getD x.2 (Int.toNat 0) (Ty.dflt q6)).2.1<0)&&(!decide ((List.getD x.2 (Int.toNat 0) (Ty.dflt q6)).2.2.1<0)&&!decide ((List.getD x.2 (Int.toNat 0) (Ty.dflt q6)).2.2.2.1<0)))
   (.ite (decide (1<qh x.2))
   (.ite (inRange 1 (List.length x.2))
    (.ite (!decide ((List.getD x.2 (Int.toNat 1) (Ty.dflt q6)).2.1<0)&&(!decide ((List.getD x.2 (Int.toNat 1) (Ty.dflt q6)).2.2.1<0)&&!decide ((List.getD x.2 (Int.toNat 1) (Ty.dflt q6)).2.2.2.1<0)))
    (.ite (decide (2<qh x.2))
     (.ite (inRange 2 (List.length x.2))
     (.ite (!decide ((List.getD x.2 (Int.toNat 2) (Ty.dflt q6)).2.1<0)&&(!decide ((List.getD x.2 (Int.toNat 2) (Ty.dflt q6)).2.2.1<0)&&!decide ((List.getD x.2 (Int.toNat 2) (Ty.dflt q6)).2.2.2.1<0)))
      (.ite (decide (3<qh x.2))
      (.ite (inRange 3 (List.length x.2))
       (.ite (!decide ((List.getD x.2 (Int.toNat 3) (Ty.dflt q6)).2.1<0)&&(!decide ((List.getD x.2 (Int.toNat 3) (Ty.dflt q6)).2.2.1<0)&&!decide ((List.getD x.2 (Int.toNat 3) (Ty.dflt q6)).2.2.2.1<0)))
       (.ite (decide (4<qh x.2))
        (.ite (inRange 4 (List.length x.2))
        (.ite (!decide ((List.getD x.2 (Int.toNat 4) (Ty.dflt q6)).2.1<0)&&(!decide ((List.getD x.2 (Int.toNat 4) (Ty.dflt q6)).2.2.1<0)&&!decide ((List.getD x.2 (Int.toNat 4) (Ty.dflt q6)).2.2.2.1<0)))
         (.ite (decide (5<qh x.2))
         (.ite (inRange 5 (List.length x.2))
          (.ite (!decide ((List.getD x.2 (Int.toNat 5) (Ty.dflt q6)).2.1<0)&&(!decide ((List.getD x.2 (Int.toNat 5) (Ty.dflt q6)).2.2.1<0)&&!decide ((List.getD x.2 (Int.toNat 5) (Ty.dflt q6)).2.2.2.1<0)))
          .fail
          .fail)
          .fail)
         (.ret (bor IntKind.i64 (bor IntKind.i64 (bor IntKind.i64 (bor IntKind.i64 (bor IntKind.i64 x.1 (qC IntKind.i64 (qbC IntKind.i64 (qba IntKind.i64 (List.getD x.2 (Int.toNat 0) (Ty.dflt q6)).1 (List.getD x.2 (Int.toNat 0) (Ty.dflt q6)).2.1) (w64 (qC IntKind.i64 1 (List.getD x.2 (Int.toNat 0) (Ty.dflt q6)).2.2.1-1))) (List.getD x.2 (Int.toNat 0) (Ty.dflt q6)).2.2.2.1)) (qC IntKind.i64 (qbC IntKind.i64 (qba IntKind.i64 (List.getD x.2 (Int.toNat 1) (Ty.dflt q6)).1 (List.getD x.2 (Int.toNat 1) (Ty.dflt q6)).2.1) (w64 (qC IntKind.i64 1 (List.getD x.2 (Int.toNat 1) (Ty.dflt q6)).2.2.1-1))) (List.getD x.2 (Int.toNat 1) (Ty.dflt q6)).2.2.2.1)) (qC IntKind.i64 (qbC IntKind.i64 (qba IntKind.i64 (List.getD x.2 (Int.toNat 2) (Ty.dflt q6)).1 (List.getD x.2 (Int.toNat 2) (Ty.dflt q6)).2.1) (w64 (qC IntKind.i64 1 (List.getD x.2 (Int.toNat 2) (Ty.dflt q6)).2.2.1-1))) (List.getD x.2 (Int.toNat 2) (Ty.dflt q6)).2.2.2.1)) (qC IntKind.i64 (qbC IntKind.i64 (qba IntKind.i64 (List.getD x.2 (Int.toNat 3) (Ty.dflt q6)).1 (List.getD x.2 (Int.toNat 3) (Ty.dflt q6)).2.1) (w64 (qC IntKind.i64 1 (List.getD x.2 (Int.toNat 3) (Ty.dflt q6)).2.2.1-1))) (List.getD x.2 (Int.toNat 3) (Ty.dflt q6)).2.2.2.1)) (qC IntKind.i64 (qbC IntKind.i64 (qba IntKind.i64 (List.getD x.2 (Int.toNat 4) (Ty.dflt q6)).1 (List.getD x.2 (Int.toNat 4) (Ty.dflt q6)).2.1) (w64 (qC IntKind.i64 1 (List.getD x.2 (Int.toNat 4) (Ty.dflt q6)).2.2.1-1))) (List.getD x.2 (Int.toNat 4) (Ty.dflt q6)).2.2.2.1))))
         .fail)
        .fail)
        (.ret (bor IntKind.i64 (bor IntKind.i64 (bor IntKind.i64 (bor IntKind.i64 x.1 (qC IntKind.i64 (qbC IntKind.i64 (qba IntKind.i64 (List.getD x.2 (Int.toNat 0) (Ty.dflt q6)).1 (List.getD x.2 (Int.toNat 0) (Ty.dflt q6)).2.1) (w64 (qC IntKind.i64 1 (List.getD x.2 (Int.toNat 0) (Ty.dflt q6)).2.2.1-1))) (List.getD x.2 (Int.toNat 0) (Ty.dflt q6)).2.2.2.1)) (qC IntKind.i64 (qbC IntKind.i64 (qba IntKind.i64 (List.getD x.2 (Int.toNat 1) (Ty.dflt q6)).1 (List.getD x.2 (Int.toNat 1) (Ty.dflt q6)).2.1) (w64 (qC IntKind.i64 1 (List.getD x.2 (Int.toNat 1) (Ty.dflt q6)).2.2.1-1))) (List.getD x.2 (Int.toNat 1) (Ty.dflt q6)).2.2.2.1)) (qC IntKind.i64 (qbC IntKind.i64 (qba IntKind.i64 (List.getD x.2 (Int.toNat 2) (Ty.dflt q6)).1 (List.getD x.2 (Int.toNat 2) (Ty.dflt q6)).2.1) (w64 (qC IntKind.i64 1 (List.getD x.2 (Int.toNat 2) (Ty.dflt q6)).2.2.1-1))) (List.getD x.2 (Int.toNat 2) (Ty.dflt q6)).2.2.2.1)) (qC IntKind.i64 (qbC IntKind.i64 (qba IntKind.i64 (List.getD x.2 (Int.toNat 3) (Ty.dflt q6)).1 (List.getD x.2 (Int.toNat 3) (Ty.dflt q6)).2.1) (w64 (qC IntKind.i64 1 (List.getD x.2 (Int.toNat 3) (Ty.dflt q6)).2.2.1-1))) (List.getD x.2 (Int.toNat 3) (Ty.dflt q6)).2.2.2.1))))
       .fail)
       .fail)
      (.ret (bor IntKind.i64 (bor IntKind.i64 (bor IntKind.i64 x.1 (qC IntKind.i64 (qbC IntKind.i64 (qba IntKind.i64 (List.getD x.2 (Int.toNat 0) (Ty.dflt q6)).1 (List.getD x.2 (Int.toNat 0) (Ty.dflt q6)).2.1) (w64 (qC IntKind.i64 1 (List.getD x.2 (Int.toNat 0) (Ty.dflt q6)).2.2.1-1))) (List.getD x.2 (Int.toNat 0) (Ty.dflt q6)).2.2.2.1)) (qC IntKind.i64 (qbC IntKind.i64 (qba IntKind.i64 (List.getD x.2 (Int.toNat 1) (Ty.dflt q6)).1 (List.getD x.2 (Int.toNat 1) (Ty.dflt q6)).2.1) (w64 (qC IntKind.i64 1 (List.getD x.2 (Int.toNat 1) (Ty.dflt q6)).2.2.1-1))) (List.getD x.2 (Int.toNat 1) (Ty.dflt q6)).2.2.2.1)) (qC IntKind.i64 (qbC IntKind.i64 (qba IntKind.i64 (List.getD x.2 (Int.toNat 2) (Ty.dflt q6)).1 (List.getD x.2 (Int.toNat 2) (Ty.dflt q6)).2.1) (w64 (qC IntKind.i64 1 (List.getD x.2 (Int.toNat 2) (Ty.dflt q6)).2.2.1-1))) (List.getD x.2 (Int.toNat 2) (Ty.dflt q6)).2.2.2.1))))
      .fail)
     .fail)
     (.ret (bor IntKind.i64 (bor IntKind.i64 x.1 (qC IntKind.i64 (qbC IntKind.i64 (qba IntKind.i64 (List.getD x.2 (Int.toNat 0) (Ty.dflt q6)).1 (List.getD x.2 (Int.toNat 0) (Ty.dflt q6)).2.1) (w64 (qC IntKind.i64 1 (List.getD x.2 (Int.toNat 0) (Ty.dflt q6)).2.2.1-1))) (List.getD x.2 (Int.toNat 0) (Ty.dflt q6)).2.2.2.1)) (qC IntKind.i64 (qbC IntKind.i64 (qba IntKind.i64 (List.getD x.2 (Int.toNat 1) (Ty.dflt q6)).1 (List.getD x.2 (Int.toNat 1) (Ty.dflt q6)).2.1) (w64 (qC IntKind.i64 1 (List.getD x.2 (Int.toNat 1) (Ty.dflt q6)).2.2.1-1))) (List.getD x.2 (Int.toNat 1) (Ty.dflt q6)).2.2.2.1))))
    .fail)
    .fail)
   (.ret (bor IntKind.i64 x.1 (qC IntKind.i64 (qbC IntKind.i64 (qba IntKind.i64 (List.getD x.2 (Int.toNat 0) (Ty.dflt q6)).1 (List.getD x.2 (Int.toNat 0) (Ty.dflt q6)).2.1) (w64 (qC IntKind.i64 1 (List.getD x.2 (Int.toNat 0) (Ty.dflt q6)).2.2.1-1))) (List.getD x.2 (Int.toNat 0) (Ty.dflt q6)).2.2.2.1))))
   .fail)
  .fail)
  (.ret (x.1)))
def qbe (x:qc qoY):Bool:=(decide ((0:Int)≤x.1)&&decide ((x.1:Int)<281474976710656))&&(decide (List.length x.2≤5)&&List.all x.2 qtv)
def qr (x:qc qoY):Sh.den qrB:=((List.foldl (fun b p=>b |||qqo p) (Int.toNat x.1) x.2:Nat):Int)
theorem qG1 (x:qc qoY) (h:qbe x=true):(qjD x).val=some (qr x):=by
 obtain⟨n,l⟩:=x
 simp only[qbe,Bool.and_eq_true,decide_eq_true_eq] at h
 obtain⟨⟨h1,h2⟩,h3,h4⟩:=h
 dsimp only[Ty.den] at *
 obtain⟨b,rfl⟩:=Int.eq_ofNat_of_zero_le h1
 unfold qr
 match l,h3,h4 with
 |[],_,_=>simp[qjD,PO.val,qh]
 |[p],_,h4 =>
  simp only[List.all_cons,List.all_nil,Bool.and_true] at h4
  obtain⟨e1,l1⟩:=qhF p h4 (show b<281474976710656 by omega)
  obtain⟨_,_,p1,p2,p3⟩:=qfj p h4
  simp[qjD,PO.val,qh,inRange,p1,p2,p3,e1]
 |[p,q],_,h4 =>
  simp only[List.all_cons,List.all_nil,Bool.and_true,Bool.and_eq_true] at h4
  obtain⟨hp,hq⟩:=h4
  obtain⟨e1,l1⟩:=qhF p hp (show b<281474976710656 by omega)
  obtain⟨_,_,p1,p2,p3⟩:=qfj p hp
  obtain⟨e2,l2⟩:=qhF q hq l1
  obtain⟨_,_,q1,q2,q3⟩:=qfj q hq
  simp[qjD,PO.val,qh,inRange,p1,p2,p3,e1,q1,q2,q3,e2]
 |[p,q,r],_,h4 =>
  simp only[List.all_cons,List.all_nil,Bool.and_true,Bool.and_eq_true] at h4
  obtain⟨hp,hq,hr⟩:=h4
  obtain⟨e1,l1⟩:=qhF p hp (show b<281474976710656 by omega)
  obtain⟨_,_,p1,p2,p3⟩:=qfj p hp
  obtain⟨e2,l2⟩:=qhF q hq l1
  obtain⟨_,_,q1,q2,q3⟩:=qfj q hq
  obtain⟨e3,l3⟩:=qhF r hr l2
  obtain⟨_,_,r1,r2,r3⟩:=qfj r hr
  simp[qjD,PO.val,qh,inRange,p1,p2,p3,e1,q1,q2,q3,e2,r1,r2,r3,e3]
 |[p,q,r,s],_,h4 =>
  simp only[List.all_cons,List.all_nil,Bool.and_true,Bool.and_eq_true] at h4
  obtain⟨hp,hq,hr,hs⟩:=h4
  obtain⟨e1,l1⟩:=qhF p hp (show b<281474976710656 by omega)
  obtain⟨_,_,p1,p2,p3⟩:=qfj p hp
  obtain⟨e2,l2⟩:=qhF q hq l1
  obtain⟨_,_,q1,q2,q3⟩:=qfj q hq
  obtain⟨e3,l3⟩:=qhF r hr l2
  obtain⟨_,_,r1,r2,r3⟩:=qfj r hr
  obtain⟨e4,l4⟩:=qhF s hs l3
  obtain⟨_,_,s1,s2,s3⟩:=qfj s hs
  simp[qjD,PO.val,qh,inRange,p1,p2,p3,e1,q1,q2,q3,e2,r1,r2,r3,e3,s1,s2,s3,e4]
 |[p,q,r,s,t],_,h4 =>
  simp only[List.all_cons,List.all_nil,Bool.and_true,Bool.and_eq_true] at h4
  obtain⟨hp,hq,hr,hs,ht⟩:=h4
  obtain⟨e1,l1⟩:=qhF p hp (show b<281474976710656 by omega)
  obtain⟨_,_,p1,p2,p3⟩:=qfj p hp
  obtain⟨e2,l2⟩:=qhF q hq l1
  obtain⟨_,_,q1,q2,q3⟩:=qfj q hq
  obtain⟨e3,l3⟩:=qhF r hr l2
  obtain⟨_,_,r1,r2,r3⟩:=qfj r hr
  obtain⟨e4,l4⟩:=qhF s hs l3
  obtain⟨_,_,s1,s2,s3⟩:=qfj s hs
  obtain⟨e5,l5⟩:=qhF t ht l4
  obtain⟨_,_,t1,t2,t3⟩:=qfj t ht
  simp[qjD,PO.val,qh,inRange,p1,p2,p3,e1,q1,q2,q3,e2,r1,r2,r3,e3,s1,s2,s3,e4,t1,t2,t3,e5]
 |_::_::_::_::_::_::_,h3,_=>simp at h3
abbrev qla:List Ty:=[(.int .i64),qbd,(.int .i64)]
abbrev qnp:Sh:=Sh.ty qiJ
def qD (x:qc qla):PO (Sh.den qnp) :=
 (.ite (qbe (0,[(x.2.1.2.2.2.2.2.1,2,3,12,()),(x.2.1.2.1,0,4,8,()),(x.2.1.2.2.2.2.2.1,0,2,6,()),(x.2.2,0,2,4,()),(x.2.1.2.2.2.1,0,4,0,())]))
  (.ite (qbe (x.1,[(x.2.1.2.2.1,0,4,0,())]))
  (.ret ((qr (x.1,[(x.2.1.2.2.1,0,4,0,())]),qr (0,[(x.2.1.2.2.2.2.2.1,2,3,12,()),(x.2.1.2.1,0,4,8,()),(x.2.1.2.2.2.2.2.1,0,2,6,()),(x.2.2,0,2,4,()),(x.2.1.2.2.2.1,0,4,0,())]),true,())))
  .fail)
  .fail)
def qc4 (x:qc qla):Bool:=(qD x).val.isSome
def qcv (x:qc qla):Sh.den qnp:=(qD x).qQ default
theorem qyQ (x:qc qla) (h:qc4 x=true):(qD x).val=some (qcv x):=PO.qb7 default h
abbrev qnK:List Ty:=[(.int .i64),qbd]
abbrev qqw:Sh:=Sh.ty qiJ
def qeP (x:qc qnK):PO (Sh.den qqw) :=
 (.ite (qbe (x.1,[(x.2.2.2.2.2.2.1,11,1,10,()),(x.2.2.2.2.2.2.1,12,4,0,())]))
  (.ite (qbe (0,[(x.2.2.2.2.2.2.1,8,3,12,()),(x.2.2.1,0,4,8,()),(x.2.2.2.2.2.2.1,0,8,0,())]))
  (.ret ((qr (x.1,[(x.2.2.2.2.2.2.1,11,1,10,()),(x.2.2.2.2.2.2.1,12,4,0,())]),qr (0,[(x.2.2.2.2.2.2.1,8,3,12,()),(x.2.2.1,0,4,8,()),(x.2.2.2.2.2.2.1,0,8,0,())]),true,())))
  .fail)
  .fail)
def qnH (x:qc qnK):Bool:=(qeP x).val.isSome
def qnU (x:qc qnK):Sh.den qqw:=(qeP x).qQ default
theorem qE4 (x:qc qnK) (h:qnH x=true):(qeP x).val=some (qnU x):=PO.qb7 default h
abbrev qmN:List Ty:=[(.int .i64),(.int .i64),(.int .i64)]
abbrev qps:Sh:=Sh.ty qiJ
def qbX (x:qc qmN):PO (Sh.den qps) :=
 (.ite (qbe (x.1,[(x.2.1,0,3,0,()),(x.2.2,0,3,3,())]))
  (.ret ((qr (x.1,[(x.2.1,0,3,0,()),(x.2.2,0,3,3,())]),0,false,())))
  .fail)
def qg2 (x:qc qmN):Bool:=(qbX x).val.isSome
def qg1 (x:qc qmN):Sh.den qps:=(qbX x).qQ default
theorem qA1 (x:qc qmN) (h:qg2 x=true):(qbX x).val=some (qg1 x):=PO.qb7 default h
abbrev qod:List Ty:=[qbd]
abbrev qqe:Sh:=Sh.ty qiJ
def qed (x:qc qod):PO (Sh.den qqe) :=
 (.ite (qbe (0,[(x.2.2.2.2.2.1,1,11,0,())]))
  (.ite (x.1==25)
  (.ite (qbe (61440,[(qbC IntKind.i64 (qba IntKind.i64 x.2.2.2.2.2.1 24) 1,0,1,10,()),(x.2.2.2.2.2.2.1,0,4,6,()),(x.2.2.2.2.2.1,12,6,0,())]))
   (.ite (qbe (bor IntKind.i64 (qr (0,[(x.2.2.2.2.2.1,1,11,0,())])) 32768,[(x.2.2.2.2.2.1,18,1,13,()),(x.2.2.2.2.2.1,19,1,11,())]))
   (.ret ((qr (61440,[(qbC IntKind.i64 (qba IntKind.i64 x.2.2.2.2.2.1 24) 1,0,1,10,()),(x.2.2.2.2.2.2.1,0,4,6,()),(x.2.2.2.2.2.1,12,6,0,())]),qr (bor IntKind.i64 (qr (0,[(x.2.2.2.2.2.1,1,11,0,())])) 32768,[(x.2.2.2.2.2.1,18,1,13,()),(x.2.2.2.2.2.1,19,1,11,())]),true,())))
   .fail)
   .fail)
  (.ite (qbe (61440,[(qbC IntKind.i64 (qba IntKind.i64 x.2.2.2.2.2.1 24) 1,0,1,10,()),(x.2.2.2.2.2.1,12,10,0,())]))
   (.ite (qbe (bor IntKind.i64 (qr (0,[(x.2.2.2.2.2.1,1,11,0,())])) 36864,[(qie IntKind.i64 (qlP IntKind.i64 (qba IntKind.i64 x.2.2.2.2.2.1 23)) (qbC IntKind.i64 (qba IntKind.i64 x.2.2.2.2.2.1 24) 1),0,1,13,()),(qie IntKind.i64 (qlP IntKind.i64 (qba IntKind.i64 x.2.2.2.2.2.1 22)) (qbC IntKind.i64 (qba IntKind.i64 x.2.2.2.2.2.1 24) 1),0,1,11,())]))
   (.ret ((qr (61440,[(qbC IntKind.i64 (qba IntKind.i64 x.2.2.2.2.2.1 24) 1,0,1,10,()),(x.2.2.2.2.2.1,12,10,0,())]),qr (bor IntKind.i64 (qr (0,[(x.2.2.2.2.2.1,1,11,0,())])) 36864,[(qie IntKind.i64 (qlP IntKind.i64 (qba IntKind.i64 x.2.2.2.2.2.1 23)) (qbC IntKind.i64 (qba IntKind.i64 x.2.2.2.2.2.1 24) 1),0,1,13,()),(qie IntKind.i64 (qlP IntKind.i64 (qba IntKind.i64 x.2.2.2.2.2.1 22)) (qbC IntKind.i64 (qba IntKind.i64 x.2.2.2.2.2.1 24) 1),0,1,11,())]),true,())))
   .fail)
   .fail))
  .fail)
def qqC (x:qc qod):Bool:=(qed x).val.isSome
def qqO (x:qc qod):Sh.den qqe:=(qed x).qQ default
theorem qFP (x:qc qod) (h:qqC x=true):(qed x).val=some (qqO x):=PO.qb7 default h
abbrev qlT:List Ty:=[qbd]
abbrev qoz:Sh:=Sh.ty qiJ
def q0 (x:qc qlT):PO (Sh.den qoz) :=
 (.ite (x.1==16)
  (.ite (qc4 (64256,x,0))
  (.ret (((qcv (64256,x,0)).1,bor IntKind.i64 (qcv (64256,x,0)).2.1 61440,(qcv (64256,x,0)).2.2)))
  .fail)
  (.ite (x.1==17)
  (.ret ((bor IntKind.i64 64416 x.2.2.1,bor IntKind.i64 (bor IntKind.i64 (qC IntKind.i64 x.2.1 12) (qC IntKind.i64 x.2.2.2.2.1 8)) x.2.2.2.1,true,())))
  (.ite (x.1==18)
   (.ite (qbe (w64 (w64 (x.2.2.2.2.2.1+x.2.2.2.2.1)-1),[(x.2.2.2.2.2.1,2,3,12,()),(x.2.1,0,4,8,()),(x.2.2.2.2.2.1,0,2,6,())]))
   (.ret ((bor IntKind.i64 62304 x.2.2.1,qr (w64 (w64 (x.2.2.2.2.2.1+x.2.2.2.2.1)-1),[(x.2.2.2.2.2.1,2,3,12,()),(x.2.1,0,4,8,()),(x.2.2.2.2.2.1,0,2,6,())]),true,())))
   .fail)
   (.ite (x.1==19)
   (.ite (qg2 (26624,x.2.1,x.2.2.1))
    (.ret (qg1 (26624,x.2.1,x.2.2.1)))
    .fail)
   (.ite (x.1==20)
    (.ite (qg2 (24576,x.2.1,x.2.2.1))
    (.ret (qg1 (24576,x.2.1,x.2.2.1)))
    .fail)
    (.ite (x.1==21)
    (.ite (qg2 (30720,x.2.1,x.2.2.1))
     (.ret (qg1 (30720,x.2.1,x.2.2.1)))
     .fail)
    (.ite (x.1==22)
     (.ite (qg2 (28672,x.2.1,x.2.2.1))
     (.ret (qg1 (28672,x.2.1,x.2.2.1)))
     .fail)
     (.ite (x.1==23)
     (.ite (qg2 (17024,x.2.2.1,x.2.2.2.1))
      (.ret (qg1 (17024,x.2.2.1,x.2.2.2.1)))
      .fail)
     (.ite (x.2.2.2.2.2.2.2.1)
      (.ite (qqC x)
      (.ret (qqO x))
      .fail)
      (.ite (x.1==24)
      (.ite (qbe (57344,[(x.2.2.2.2.2.1,1,11,0,())]))
       (.ret ((qr (57344,[(x.2.2.2.2.2.1,1,11,0,())]),0,false,())))
       .fail)
      (.ite (qbe (53248,[(x.2.2.2.2.2.2.1,0,4,8,()),(x.2.2.2.2.2.1,1,8,0,())]))
       (.ret ((qr (53248,[(x.2.2.2.2.2.2.1,0,4,8,()),(x.2.2.2.2.2.1,1,8,0,())]),0,false,())))
       .fail)))))))))))
def qoF (x:qc qlT):Bool:=(q0 x).val.isSome
def qoN (x:qc qlT):Sh.den qoz:=(q0 x).qQ default
theorem qAm (x:qc qlT) (h:qoF x=true):(q0 x).val=some (qoN x):=PO.qb7 default h
abbrev qn6:List Ty:=[qbd]
abbrev qqT:Sh:=Sh.ty qiJ
def qY (x:qc qn6):PO (Sh.den qqT) :=
 (.ite (x.1==1)
  (.ret ((48896,0,false,())))
  (.ite (x.1==2)
  (.ret ((bor IntKind.i64 48640 x.2.2.2.2.2.1,0,false,())))
  (.ite (x.1==3)
   (.ite (qnH (62016,x))
   (.ret (qnU (62016,x)))
   .fail)
   (.ite (x.1==4)
   (.ite (qnH (62144,x))
    (.ret (qnU (62144,x)))
    .fail)
   (.ite (bif x.1==5 then x.1==5 else bif x.1==6 then x.1==6 else bif x.1==7 then x.1==7 else x.1==8)
    (.ite (qc4 (59983,x,w64 (x.1-5)))
    (.ret (qcv (59983,x,w64 (x.1-5))))
    .fail)
    (.ite (x.1==9)
    (.ite (qc4 (60015,x,0))
     (.ret (qcv (60015,x,0)))
     .fail)
    (.ite (x.1==10)
     (.ite (qc4 (59904,x,0))
     (.ret (qcv (59904,x,0)))
     .fail)
     (.ite (x.1==11)
     (.ite (qc4 (59936,x,0))
      (.ret (qcv (59936,x,0)))
      .fail)
     (.ite (x.1==12)
      (.ite (qc4 (59968,x,0))
      (.ret (qcv (59968,x,0)))
      .fail)
      (.ite (x.1==13)
      (.ite (qc4 (60032,x,0))
       (.ret (qcv (60032,x,0)))
       .fail)
      (.ite (x.1==14)
       (.ite (qc4 (60160,x,0))
       (.ret (qcv (60160,x,0)))
       .fail)
       (.ite (x.1==15)
       (.ite (qc4 (60320,x,0))
        (.ret (qcv (60320,x,0)))
        .fail)
       (.ite (qoF x)
        (.ret (qoN x))
        .fail)))))))))))))
def qqi (x:qc qn6):Bool:=(qY x).val.isSome
def qqs (x:qc qn6):Sh.den qqT:=(qY x).qQ default
theorem qGl (x:qc qn6) (h:qqi x=true):(qY x).val=some (qqs x):=PO.qb7 default h
end Go.Av
end
section
namespace Go.Av
open Go
def qi7 (op:Int) (w:Bool):Bool:=w||(decide (3≤op)&&decide (op≤18))
theorem qnR (b:Nat) (l:List q6.den) (hb:b<281474976710656) (hl:(decide (List.length l≤5)&&List.all l qtv)=true):qbe ((b:Int),l)=true:=by
 have h1:decide ((0:Int)≤(b:Int))=true:=qK (by omega)
 have h2:decide ((b:Int)<281474976710656)=true:=qK (by omega)
 show((decide ((0:Int)≤(b:Int))&&decide ((b:Int)<281474976710656))&&(decide (List.length l≤5)&&List.all l qtv))=true
 rw[h1,h2,hl]
 rfl
theorem qAF (l:List q6.den) (hl:(decide (List.length l≤5)&&List.all l qtv)=true):qbe (0,l)=true:=qnR 0 l (by omega) hl
section
variable (first:Nat) (op rd rn rm ra imm cond:Int) (w:Bool) (kind:Int)
theorem qeX (h:first<281474976710656):(qD ((first:Int),(op,rd,rn,rm,ra,imm,cond,w,()),kind)).val =
  some (qr ((first:Int),[(rn,0,4,0,())]),qr (0,[(imm,2,3,12,()),(rd,0,4,8,()),(imm,0,2,6,()),(kind,0,2,4,()),(rm,0,4,0,())]),true,()):=by
 have h1:qbe ((first:Int),[(rn,0,4,0,())])=true:=qnR first _ h rfl
 have h2:qbe (0,[(imm,2,3,12,()),(rd,0,4,8,()),(imm,0,2,6,()),(kind,0,2,4,()),(rm,0,4,0,())])=true:=qAF _ rfl
 show(bif qbe (0,[(imm,2,3,12,()),(rd,0,4,8,()),(imm,0,2,6,()),(kind,0,2,4,()),(rm,0,4,0,())]) then(bif qbe ((first:Int),[(rn,0,4,0,())]) then _ else _) else _)=_
 rw[h1,h2]
 rfl
theorem qHQ (h:first<281474976710656):(qeP ((first:Int),(op,rd,rn,rm,ra,imm,cond,w,()))).val =
  some (qr ((first:Int),[(imm,11,1,10,()),(imm,12,4,0,())]),qr (0,[(imm,8,3,12,()),(rd,0,4,8,()),(imm,0,8,0,())]),true,()):=by
 have h1:qbe ((first:Int),[(imm,11,1,10,()),(imm,12,4,0,())])=true:=qnR first _ h rfl
 have h2:qbe (0,[(imm,8,3,12,()),(rd,0,4,8,()),(imm,0,8,0,())])=true:=qAF _ rfl
 show(bif qbe ((first:Int),[(imm,11,1,10,()),(imm,12,4,0,())]) then(bif qbe (0,[(imm,8,3,12,()),(rd,0,4,8,()),(imm,0,8,0,())]) then _ else _) else _)=_
 rw[h1,h2]
 rfl
theorem qsc (a b:Int) (h:first<281474976710656):(qbX ((first:Int),a,b)).val=some (qr ((first:Int),[(a,0,3,0,()),(b,0,3,3,())]),0,false,()):=by
 have h1:qbe ((first:Int),[(a,0,3,0,()),(b,0,3,3,())])=true:=qnR first _ h rfl
 show(bif qbe ((first:Int),[(a,0,3,0,()),(b,0,3,3,())]) then _ else _)=_
 rw[h1]
 rfl
def qtC:Nat:=qqk imm 1 11 0
theorem qPJ:qtC imm<2048:=by
 unfold qtC qqk
 have h:=qm9 (imm / (2 ^ (1:Int).toNat:Nat)) 11
 have e:(11:Int).toNat=11:=rfl
 have e0:(0:Int).toNat=0:=rfl
 rw[e,e0]
 omega
theorem qKB:qr (0,[(imm,1,11,0,())])=(qtC imm:Int):=by
 show((0 |||qqk imm 1 11 0:Nat):Int)=_
 rw[Nat.zero_or]
 rfl
def qqn:qiJ.den :=
 bif op==25 then(qr (61440,[(qbC .i64 (qba .i64 imm 24) 1,0,1,10,()),(cond,0,4,6,()),(imm,12,6,0,())]),qr (((qtC imm |||32768:Nat):Int),[(imm,18,1,13,()),(imm,19,1,11,())]),true,())
 else(qr (61440,[(qbC .i64 (qba .i64 imm 24) 1,0,1,10,()),(imm,12,10,0,())]),qr (((qtC imm |||36864:Nat):Int),[(qie .i64 (qlP .i64 (qba .i64 imm 23)) (qbC .i64 (qba .i64 imm 24) 1),0,1,13,()),(qie .i64 (qlP .i64 (qba .i64 imm 22)) (qbC .i64 (qba .i64 imm 24) 1),0,1,11,())]),true,())
theorem qIU:(qed (op,rd,rn,rm,ra,imm,cond,w,())).val=some (qqn op imm cond):=by
 have hl:=qPJ imm
 have o1:qtC imm |||32768<2 ^ 48:=Nat.or_lt_two_pow (by omega) (by omega)
 have o2:qtC imm |||36864<2 ^ 48:=Nat.or_lt_two_pow (by omega) (by omega)
 have e1:bor .i64 (qr (0,[(imm,1,11,0,())])) 32768=((qtC imm |||32768:Nat):Int):=by
  rw[qKB];exact qth (b:=32768) (by omega) (by omega)
 have e2:bor .i64 (qr (0,[(imm,1,11,0,())])) 36864=((qtC imm |||36864:Nat):Int):=by
  rw[qKB];exact qth (b:=36864) (by omega) (by omega)
 have g0:qbe (0,[(imm,1,11,0,())])=true:=qAF _ rfl
 have g1:qbe (61440,[(qbC .i64 (qba .i64 imm 24) 1,0,1,10,()),(cond,0,4,6,()),(imm,12,6,0,())])=true:=qnR 61440 _ (by omega) rfl
 have g2:qbe (61440,[(qbC .i64 (qba .i64 imm 24) 1,0,1,10,()),(imm,12,10,0,())])=true:=qnR 61440 _ (by omega) rfl
 have g3:=qnR (qtC imm |||32768) [(imm,18,1,13,()),(imm,19,1,11,())] o1 rfl
 have g4:=qnR (qtC imm |||36864) [(qie .i64 (qlP .i64 (qba .i64 imm 23)) (qbC .i64 (qba .i64 imm 24) 1),0,1,13,()),(qie .i64 (qlP .i64 (qba .i64 imm 22)) (qbC .i64 (qba .i64 imm 24) 1),0,1,11,())] o2 rfl
 simp only[qed,PO.val]
 rw[e1,e2,g0,g1,g2,g3,g4]
 unfold qqn
 cases op==25
 ·rfl
 ·rfl
end
def qcJ (op rd rn rm ra imm cond:Int) (w:Bool):qiJ.den :=
 bif op==1 then(48896,0,false,())
 else bif op==2 then(bor .i64 48640 imm,0,false,())
 else bif op==3 then(qr (62016,[(imm,11,1,10,()),(imm,12,4,0,())]),qr (0,[(imm,8,3,12,()),(rd,0,4,8,()),(imm,0,8,0,())]),true,())
 else bif op==4 then(qr (62144,[(imm,11,1,10,()),(imm,12,4,0,())]),qr (0,[(imm,8,3,12,()),(rd,0,4,8,()),(imm,0,8,0,())]),true,())
 else bif decide (op≤16)&&decide (5≤op) then
  (qr (bif decide (op≤8) then 59983 else bif op==9 then 60015 else bif op==10 then 59904 else bif op==11 then 59936 else bif op==12 then 59968 else bif op==13 then 60032 else bif op==14 then 60160 else bif op==15 then 60320 else 64256,[(rn,0,4,0,())]),
   (bif op==16 then bor .i64 (qr (0,[(imm,2,3,12,()),(rd,0,4,8,()),(imm,0,2,6,()),(0,0,2,4,()),(rm,0,4,0,())])) 61440
   else qr (0,[(imm,2,3,12,()),(rd,0,4,8,()),(imm,0,2,6,()),(bif decide (op≤8) then op-5 else 0,0,2,4,()),(rm,0,4,0,())])),true,())
 else bif op==17 then(bor .i64 64416 rn,bor .i64 (bor .i64 (qC .i64 rd 12) (qC .i64 ra 8)) rm,true,())
 else bif op==18 then(bor .i64 62304 rn,qr (imm+ra-1,[(imm,2,3,12,()),(rd,0,4,8,()),(imm,0,2,6,())]),true,())
 else bif op==23 then(qr (17024,[(rn,0,3,0,()),(rm,0,3,3,())]),0,false,())
 else bif decide (op≤22) then(qr (bif op==19 then 26624 else bif op==20 then 24576 else bif op==21 then 30720 else 28672,[(rd,0,3,0,()),(rn,0,3,3,())]),0,false,())
 else bif w then qqn op imm cond
 else bif op==24 then(qr (57344,[(imm,1,11,0,())]),0,false,())
 else(qr (53248,[(cond,0,4,8,()),(imm,1,8,0,())]),0,false,())
theorem qL7 {rd rn rm ra imm cond:Int} {w:Bool} (h:qk (18,rd,rn,rm,ra,imm,cond,w,())=0):0≤imm∧imm≤31∧1≤ra∧ra≤32-imm:=by
 have hw:=qt4 imm
 simp[qk,qcB,qbq,qcM,qc5,qg5,qcI,qf3,PO.qQ,PO.val] at h
 grind
theorem qRO (rd rn rm ra imm cond:Int) (w:Bool) (_:qk (1,rd,rn,rm,ra,imm,cond,w,())=0):(qY (1,rd,rn,rm,ra,imm,cond,w,())).val=some (qcJ 1 rd rn rm ra imm cond w):=by
 rfl
theorem qRg (rd rn rm ra imm cond:Int) (w:Bool) (_:qk (2,rd,rn,rm,ra,imm,cond,w,())=0):(qY (2,rd,rn,rm,ra,imm,cond,w,())).val=some (qcJ 2 rd rn rm ra imm cond w):=by
 rfl
theorem qSq (rd rn rm ra imm cond:Int) (w:Bool) (_:qk (3,rd,rn,rm,ra,imm,cond,w,())=0):(qY (3,rd,rn,rm,ra,imm,cond,w,())).val=some (qcJ 3 rd rn rm ra imm cond w):=by
 have e:(qeP (62016,3,rd,rn,rm,ra,imm,cond,w,())).val=_:=qHQ 62016 3 rd rn rm ra imm cond w (by omega)
 refine Eq.trans (b:=(bif (PO.val (qeP (62016,3,rd,rn,rm,ra,imm,cond,w,()))).isSome then some ((PO.val (qeP (62016,3,rd,rn,rm,ra,imm,cond,w,()))).getD default) else none)) rfl ?_
 rw[e]
 rfl
theorem qSk (rd rn rm ra imm cond:Int) (w:Bool) (_:qk (4,rd,rn,rm,ra,imm,cond,w,())=0):(qY (4,rd,rn,rm,ra,imm,cond,w,())).val=some (qcJ 4 rd rn rm ra imm cond w):=by
 have e:(qeP (62144,4,rd,rn,rm,ra,imm,cond,w,())).val=_:=qHQ 62144 4 rd rn rm ra imm cond w (by omega)
 refine Eq.trans (b:=(bif (PO.val (qeP (62144,4,rd,rn,rm,ra,imm,cond,w,()))).isSome then some ((PO.val (qeP (62144,4,rd,rn,rm,ra,imm,cond,w,()))).getD default) else none)) rfl ?_
 rw[e]
 rfl
theorem qRv (rd rn rm ra imm cond:Int) (w:Bool) (_:qk (5,rd,rn,rm,ra,imm,cond,w,())=0):(qY (5,rd,rn,rm,ra,imm,cond,w,())).val=some (qcJ 5 rd rn rm ra imm cond w):=by
 have e:(qD (59983,(5,rd,rn,rm,ra,imm,cond,w,()),(w64 (5-5)))).val=_:=qeX 59983 5 rd rn rm ra imm cond w (w64 (5-5)) (by omega)
 refine Eq.trans (b:=(bif (PO.val (qD (59983,(5,rd,rn,rm,ra,imm,cond,w,()),(w64 (5-5))))).isSome then some ((PO.val (qD (59983,(5,rd,rn,rm,ra,imm,cond,w,()),(w64 (5-5))))).getD default) else none)) rfl ?_
 rw[e]
 rfl
theorem qRJ (rd rn rm ra imm cond:Int) (w:Bool) (_:qk (6,rd,rn,rm,ra,imm,cond,w,())=0):(qY (6,rd,rn,rm,ra,imm,cond,w,())).val=some (qcJ 6 rd rn rm ra imm cond w):=by
 have e:(qD (59983,(6,rd,rn,rm,ra,imm,cond,w,()),(w64 (6-5)))).val=_:=qeX 59983 6 rd rn rm ra imm cond w (w64 (6-5)) (by omega)
 refine Eq.trans (b:=(bif (PO.val (qD (59983,(6,rd,rn,rm,ra,imm,cond,w,()),(w64 (6-5))))).isSome then some ((PO.val (qD (59983,(6,rd,rn,rm,ra,imm,cond,w,()),(w64 (6-5))))).getD default) else none)) rfl ?_
 rw[e]
 rfl
theorem qR4 (rd rn rm ra imm cond:Int) (w:Bool) (_:qk (7,rd,rn,rm,ra,imm,cond,w,())=0):(qY (7,rd,rn,rm,ra,imm,cond,w,())).val=some (qcJ 7 rd rn rm ra imm cond w):=by
 have e:(qD (59983,(7,rd,rn,rm,ra,imm,cond,w,()),(w64 (7-5)))).val=_:=qeX 59983 7 rd rn rm ra imm cond w (w64 (7-5)) (by omega)
 refine Eq.trans (b:=(bif (PO.val (qD (59983,(7,rd,rn,rm,ra,imm,cond,w,()),(w64 (7-5))))).isSome then some ((PO.val (qD (59983,(7,rd,rn,rm,ra,imm,cond,w,()),(w64 (7-5))))).getD default) else none)) rfl ?_
 rw[e]
 rfl
theorem qRo (rd rn rm ra imm cond:Int) (w:Bool) (_:qk (8,rd,rn,rm,ra,imm,cond,w,())=0):(qY (8,rd,rn,rm,ra,imm,cond,w,())).val=some (qcJ 8 rd rn rm ra imm cond w):=by
 have e:(qD (59983,(8,rd,rn,rm,ra,imm,cond,w,()),(w64 (8-5)))).val=_:=qeX 59983 8 rd rn rm ra imm cond w (w64 (8-5)) (by omega)
 refine Eq.trans (b:=(bif (PO.val (qD (59983,(8,rd,rn,rm,ra,imm,cond,w,()),(w64 (8-5))))).isSome then some ((PO.val (qD (59983,(8,rd,rn,rm,ra,imm,cond,w,()),(w64 (8-5))))).getD default) else none)) rfl ?_
 rw[e]
 rfl
theorem qRU (rd rn rm ra imm cond:Int) (w:Bool) (_:qk (9,rd,rn,rm,ra,imm,cond,w,())=0):(qY (9,rd,rn,rm,ra,imm,cond,w,())).val=some (qcJ 9 rd rn rm ra imm cond w):=by
 have e:(qD (60015,(9,rd,rn,rm,ra,imm,cond,w,()),0)).val=_:=qeX 60015 9 rd rn rm ra imm cond w 0 (by omega)
 refine Eq.trans (b:=(bif (PO.val (qD (60015,(9,rd,rn,rm,ra,imm,cond,w,()),0))).isSome then some ((PO.val (qD (60015,(9,rd,rn,rm,ra,imm,cond,w,()),0))).getD default) else none)) rfl ?_
 rw[e]
 rfl
theorem qPY (rd rn rm ra imm cond:Int) (w:Bool) (_:qk (10,rd,rn,rm,ra,imm,cond,w,())=0):(qY (10,rd,rn,rm,ra,imm,cond,w,())).val=some (qcJ 10 rd rn rm ra imm cond w):=by
 have e:(qD (59904,(10,rd,rn,rm,ra,imm,cond,w,()),0)).val=_:=qeX 59904 10 rd rn rm ra imm cond w 0 (by omega)
 refine Eq.trans (b:=(bif (PO.val (qD (59904,(10,rd,rn,rm,ra,imm,cond,w,()),0))).isSome then some ((PO.val (qD (59904,(10,rd,rn,rm,ra,imm,cond,w,()),0))).getD default) else none)) rfl ?_
 rw[e]
 rfl
theorem qP8 (rd rn rm ra imm cond:Int) (w:Bool) (_:qk (11,rd,rn,rm,ra,imm,cond,w,())=0):(qY (11,rd,rn,rm,ra,imm,cond,w,())).val=some (qcJ 11 rd rn rm ra imm cond w):=by
 have e:(qD (59936,(11,rd,rn,rm,ra,imm,cond,w,()),0)).val=_:=qeX 59936 11 rd rn rm ra imm cond w 0 (by omega)
 refine Eq.trans (b:=(bif (PO.val (qD (59936,(11,rd,rn,rm,ra,imm,cond,w,()),0))).isSome then some ((PO.val (qD (59936,(11,rd,rn,rm,ra,imm,cond,w,()),0))).getD default) else none)) rfl ?_
 rw[e]
 rfl
theorem qQG (rd rn rm ra imm cond:Int) (w:Bool) (_:qk (12,rd,rn,rm,ra,imm,cond,w,())=0):(qY (12,rd,rn,rm,ra,imm,cond,w,())).val=some (qcJ 12 rd rn rm ra imm cond w):=by
 have e:(qD (59968,(12,rd,rn,rm,ra,imm,cond,w,()),0)).val=_:=qeX 59968 12 rd rn rm ra imm cond w 0 (by omega)
 refine Eq.trans (b:=(bif (PO.val (qD (59968,(12,rd,rn,rm,ra,imm,cond,w,()),0))).isSome then some ((PO.val (qD (59968,(12,rd,rn,rm,ra,imm,cond,w,()),0))).getD default) else none)) rfl ?_
 rw[e]
 rfl
theorem qPK (rd rn rm ra imm cond:Int) (w:Bool) (_:qk (13,rd,rn,rm,ra,imm,cond,w,())=0):(qY (13,rd,rn,rm,ra,imm,cond,w,())).val=some (qcJ 13 rd rn rm ra imm cond w):=by
 have e:(qD (60032,(13,rd,rn,rm,ra,imm,cond,w,()),0)).val=_:=qeX 60032 13 rd rn rm ra imm cond w 0 (by omega)
 refine Eq.trans (b:=(bif (PO.val (qD (60032,(13,rd,rn,rm,ra,imm,cond,w,()),0))).isSome then some ((PO.val (qD (60032,(13,rd,rn,rm,ra,imm,cond,w,()),0))).getD default) else none)) rfl ?_
 rw[e]
 rfl
theorem qQb (rd rn rm ra imm cond:Int) (w:Bool) (_:qk (14,rd,rn,rm,ra,imm,cond,w,())=0):(qY (14,rd,rn,rm,ra,imm,cond,w,())).val=some (qcJ 14 rd rn rm ra imm cond w):=by
 have e:(qD (60160,(14,rd,rn,rm,ra,imm,cond,w,()),0)).val=_:=qeX 60160 14 rd rn rm ra imm cond w 0 (by omega)
 refine Eq.trans (b:=(bif (PO.val (qD (60160,(14,rd,rn,rm,ra,imm,cond,w,()),0))).isSome then some ((PO.val (qD (60160,(14,rd,rn,rm,ra,imm,cond,w,()),0))).getD default) else none)) rfl ?_
 rw[e]
 rfl
theorem qQr (rd rn rm ra imm cond:Int) (w:Bool) (_:qk (15,rd,rn,rm,ra,imm,cond,w,())=0):(qY (15,rd,rn,rm,ra,imm,cond,w,())).val=some (qcJ 15 rd rn rm ra imm cond w):=by
 have e:(qD (60320,(15,rd,rn,rm,ra,imm,cond,w,()),0)).val=_:=qeX 60320 15 rd rn rm ra imm cond w 0 (by omega)
 refine Eq.trans (b:=(bif (PO.val (qD (60320,(15,rd,rn,rm,ra,imm,cond,w,()),0))).isSome then some ((PO.val (qD (60320,(15,rd,rn,rm,ra,imm,cond,w,()),0))).getD default) else none)) rfl ?_
 rw[e]
 rfl
theorem qPI (rd rn rm ra imm cond:Int) (w:Bool) (_:qk (16,rd,rn,rm,ra,imm,cond,w,())=0):(qY (16,rd,rn,rm,ra,imm,cond,w,())).val=some (qcJ 16 rd rn rm ra imm cond w):=by
 have b:(qY (16,rd,rn,rm,ra,imm,cond,w,())).val=(bif (PO.val (q0 (16,rd,rn,rm,ra,imm,cond,w,()))).isSome then some ((PO.val (q0 (16,rd,rn,rm,ra,imm,cond,w,()))).getD default) else none):=rfl
 have e:(qD (64256,(16,rd,rn,rm,ra,imm,cond,w,()),0)).val=_:=qeX 64256 16 rd rn rm ra imm cond w 0 (by omega)
 have o:(q0 (16,rd,rn,rm,ra,imm,cond,w,())).val=some (qr (64256,[(rn,0,4,0,())]),bor .i64 (qr (0,[(imm,2,3,12,()),(rd,0,4,8,()),(imm,0,2,6,()),(0,0,2,4,()),(rm,0,4,0,())])) 61440,true,()):=by
  refine Eq.trans (b:=(bif (PO.val (qD (64256,(16,rd,rn,rm,ra,imm,cond,w,()),0))).isSome then some (((PO.val (qD (64256,(16,rd,rn,rm,ra,imm,cond,w,()),0))).getD default).1,bor .i64 ((PO.val (qD (64256,(16,rd,rn,rm,ra,imm,cond,w,()),0))).getD default).2.1 61440,((PO.val (qD (64256,(16,rd,rn,rm,ra,imm,cond,w,()),0))).getD default).2.2) else none)) rfl ?_
  rw[e]
  rfl
 have c:qcJ 16 rd rn rm ra imm cond w=(qr (64256,[(rn,0,4,0,())]),bor .i64 (qr (0,[(imm,2,3,12,()),(rd,0,4,8,()),(imm,0,2,6,()),(0,0,2,4,()),(rm,0,4,0,())])) 61440,true,()):=rfl
 rw[b,o,c]
 rfl
theorem qQw (rd rn rm ra imm cond:Int) (w:Bool) (_:qk (17,rd,rn,rm,ra,imm,cond,w,())=0):(qY (17,rd,rn,rm,ra,imm,cond,w,())).val=some (qcJ 17 rd rn rm ra imm cond w):=by
 have b:(qY (17,rd,rn,rm,ra,imm,cond,w,())).val=(bif (PO.val (q0 (17,rd,rn,rm,ra,imm,cond,w,()))).isSome then some ((PO.val (q0 (17,rd,rn,rm,ra,imm,cond,w,()))).getD default) else none):=rfl
 have o:(q0 (17,rd,rn,rm,ra,imm,cond,w,())).val=some (bor .i64 64416 rn,bor .i64 (bor .i64 (qC .i64 rd 12) (qC .i64 ra 8)) rm,true,()):=rfl
 have c:qcJ 17 rd rn rm ra imm cond w=(bor .i64 64416 rn,bor .i64 (bor .i64 (qC .i64 rd 12) (qC .i64 ra 8)) rm,true,()):=rfl
 rw[b,o,c]
 rfl
theorem qP4 (rd rn rm ra imm cond:Int) (w:Bool) (h:qk (18,rd,rn,rm,ra,imm,cond,w,())=0):(qY (18,rd,rn,rm,ra,imm,cond,w,())).val=some (qcJ 18 rd rn rm ra imm cond w):=by
 have b:(qY (18,rd,rn,rm,ra,imm,cond,w,())).val=(bif (PO.val (q0 (18,rd,rn,rm,ra,imm,cond,w,()))).isSome then some ((PO.val (q0 (18,rd,rn,rm,ra,imm,cond,w,()))).getD default) else none):=rfl
 obtain⟨c1,c2,c3,c4⟩:=qL7 h
 have hs:w64 (w64 (imm+ra)-1)=imm+ra-1:=by rw[qt (n:=imm+ra) (by omega) (by omega),qt (by omega) (by omega)]
 obtain⟨n,hn⟩:=Int.eq_ofNat_of_zero_le (show 0≤imm+ra-1 by omega)
 have g:=qnR n [(imm,2,3,12,()),(rd,0,4,8,()),(imm,0,2,6,())] (by omega) rfl
 have o:(q0 (18,rd,rn,rm,ra,imm,cond,w,())).val=some (bor .i64 62304 rn,qr (imm+ra-1,[(imm,2,3,12,()),(rd,0,4,8,()),(imm,0,2,6,())]),true,()):=by
  refine Eq.trans (b:=(bif qbe (w64 (w64 (imm+ra)-1),[(imm,2,3,12,()),(rd,0,4,8,()),(imm,0,2,6,())]) then some (bor .i64 62304 rn,qr (w64 (w64 (imm+ra)-1),[(imm,2,3,12,()),(rd,0,4,8,()),(imm,0,2,6,())]),true,()) else none)) rfl ?_
  rw[hs,hn,g]
  rfl
 have c:qcJ 18 rd rn rm ra imm cond w=(bor .i64 62304 rn,qr (imm+ra-1,[(imm,2,3,12,()),(rd,0,4,8,()),(imm,0,2,6,())]),true,()):=rfl
 rw[b,o,c]
 rfl
theorem qPS (rd rn rm ra imm cond:Int) (w:Bool) (_:qk (19,rd,rn,rm,ra,imm,cond,w,())=0):(qY (19,rd,rn,rm,ra,imm,cond,w,())).val=some (qcJ 19 rd rn rm ra imm cond w):=by
 have b:(qY (19,rd,rn,rm,ra,imm,cond,w,())).val=(bif (PO.val (q0 (19,rd,rn,rm,ra,imm,cond,w,()))).isSome then some ((PO.val (q0 (19,rd,rn,rm,ra,imm,cond,w,()))).getD default) else none):=rfl
 have e:(qbX (26624,rd,rn)).val=some (qr (26624,[(rd,0,3,0,()),(rn,0,3,3,())]),0,false,()):=qsc 26624 rd rn (by omega)
 have o:(q0 (19,rd,rn,rm,ra,imm,cond,w,())).val=some (qr (26624,[(rd,0,3,0,()),(rn,0,3,3,())]),0,false,()):=by
  refine Eq.trans (b:=(bif (PO.val (qbX (26624,rd,rn))).isSome then some ((PO.val (qbX (26624,rd,rn))).getD default) else none)) rfl ?_
  rw[e]
  rfl
 have c:qcJ 19 rd rn rm ra imm cond w=(qr (26624,[(rd,0,3,0,()),(rn,0,3,3,())]),0,false,()):=rfl
 rw[b,o,c]
 rfl
theorem qQQ (rd rn rm ra imm cond:Int) (w:Bool) (_:qk (20,rd,rn,rm,ra,imm,cond,w,())=0):(qY (20,rd,rn,rm,ra,imm,cond,w,())).val=some (qcJ 20 rd rn rm ra imm cond w):=by
 have b:(qY (20,rd,rn,rm,ra,imm,cond,w,())).val=(bif (PO.val (q0 (20,rd,rn,rm,ra,imm,cond,w,()))).isSome then some ((PO.val (q0 (20,rd,rn,rm,ra,imm,cond,w,()))).getD default) else none):=rfl
 have e:(qbX (24576,rd,rn)).val=some (qr (24576,[(rd,0,3,0,()),(rn,0,3,3,())]),0,false,()):=qsc 24576 rd rn (by omega)
 have o:(q0 (20,rd,rn,rm,ra,imm,cond,w,())).val=some (qr (24576,[(rd,0,3,0,()),(rn,0,3,3,())]),0,false,()):=by
  refine Eq.trans (b:=(bif (PO.val (qbX (24576,rd,rn))).isSome then some ((PO.val (qbX (24576,rd,rn))).getD default) else none)) rfl ?_
  rw[e]
  rfl
 have c:qcJ 20 rd rn rm ra imm cond w=(qr (24576,[(rd,0,3,0,()),(rn,0,3,3,())]),0,false,()):=rfl
 rw[b,o,c]
 rfl
theorem qQY (rd rn rm ra imm cond:Int) (w:Bool) (_:qk (21,rd,rn,rm,ra,imm,cond,w,())=0):(qY (21,rd,rn,rm,ra,imm,cond,w,())).val=some (qcJ 21 rd rn rm ra imm cond w):=by
 have b:(qY (21,rd,rn,rm,ra,imm,cond,w,())).val=(bif (PO.val (q0 (21,rd,rn,rm,ra,imm,cond,w,()))).isSome then some ((PO.val (q0 (21,rd,rn,rm,ra,imm,cond,w,()))).getD default) else none):=rfl
 have e:(qbX (30720,rd,rn)).val=some (qr (30720,[(rd,0,3,0,()),(rn,0,3,3,())]),0,false,()):=qsc 30720 rd rn (by omega)
 have o:(q0 (21,rd,rn,rm,ra,imm,cond,w,())).val=some (qr (30720,[(rd,0,3,0,()),(rn,0,3,3,())]),0,false,()):=by
  refine Eq.trans (b:=(bif (PO.val (qbX (30720,rd,rn))).isSome then some ((PO.val (qbX (30720,rd,rn))).getD default) else none)) rfl ?_
  rw[e]
  rfl
 have c:qcJ 21 rd rn rm ra imm cond w=(qr (30720,[(rd,0,3,0,()),(rn,0,3,3,())]),0,false,()):=rfl
 rw[b,o,c]
 rfl
theorem qQs (rd rn rm ra imm cond:Int) (w:Bool) (_:qk (22,rd,rn,rm,ra,imm,cond,w,())=0):(qY (22,rd,rn,rm,ra,imm,cond,w,())).val=some (qcJ 22 rd rn rm ra imm cond w):=by
 have b:(qY (22,rd,rn,rm,ra,imm,cond,w,())).val=(bif (PO.val (q0 (22,rd,rn,rm,ra,imm,cond,w,()))).isSome then some ((PO.val (q0 (22,rd,rn,rm,ra,imm,cond,w,()))).getD default) else none):=rfl
 have e:(qbX (28672,rd,rn)).val=some (qr (28672,[(rd,0,3,0,()),(rn,0,3,3,())]),0,false,()):=qsc 28672 rd rn (by omega)
 have o:(q0 (22,rd,rn,rm,ra,imm,cond,w,())).val=some (qr (28672,[(rd,0,3,0,()),(rn,0,3,3,())]),0,false,()):=by
  refine Eq.trans (b:=(bif (PO.val (qbX (28672,rd,rn))).isSome then some ((PO.val (qbX (28672,rd,rn))).getD default) else none)) rfl ?_
  rw[e]
  rfl
 have c:qcJ 22 rd rn rm ra imm cond w=(qr (28672,[(rd,0,3,0,()),(rn,0,3,3,())]),0,false,()):=rfl
 rw[b,o,c]
 rfl
theorem qPP (rd rn rm ra imm cond:Int) (w:Bool) (_:qk (23,rd,rn,rm,ra,imm,cond,w,())=0):(qY (23,rd,rn,rm,ra,imm,cond,w,())).val=some (qcJ 23 rd rn rm ra imm cond w):=by
 have b:(qY (23,rd,rn,rm,ra,imm,cond,w,())).val=(bif (PO.val (q0 (23,rd,rn,rm,ra,imm,cond,w,()))).isSome then some ((PO.val (q0 (23,rd,rn,rm,ra,imm,cond,w,()))).getD default) else none):=rfl
 have e:(qbX (17024,rn,rm)).val=some (qr (17024,[(rn,0,3,0,()),(rm,0,3,3,())]),0,false,()):=qsc 17024 rn rm (by omega)
 have o:(q0 (23,rd,rn,rm,ra,imm,cond,w,())).val=some (qr (17024,[(rn,0,3,0,()),(rm,0,3,3,())]),0,false,()):=by
  refine Eq.trans (b:=(bif (PO.val (qbX (17024,rn,rm))).isSome then some ((PO.val (qbX (17024,rn,rm))).getD default) else none)) rfl ?_
  rw[e]
  rfl
 have c:qcJ 23 rd rn rm ra imm cond w=(qr (17024,[(rn,0,3,0,()),(rm,0,3,3,())]),0,false,()):=rfl
 rw[b,o,c]
 rfl
theorem qQz (rd rn rm ra imm cond:Int) (w:Bool) (_:qk (24,rd,rn,rm,ra,imm,cond,w,())=0):(qY (24,rd,rn,rm,ra,imm,cond,w,())).val=some (qcJ 24 rd rn rm ra imm cond w):=by
 have b:(qY (24,rd,rn,rm,ra,imm,cond,w,())).val=(bif (PO.val (q0 (24,rd,rn,rm,ra,imm,cond,w,()))).isSome then some ((PO.val (q0 (24,rd,rn,rm,ra,imm,cond,w,()))).getD default) else none):=rfl
 have e:(qed (24,rd,rn,rm,ra,imm,cond,w,())).val=some (qqn 24 imm cond):=qIU 24 rd rn rm ra imm cond w
 have g:qbe (57344,[(imm,1,11,0,())])=true:=qnR 57344 [(imm,1,11,0,())] (by omega) rfl
 have o:(q0 (24,rd,rn,rm,ra,imm,cond,w,())).val=some (bif w then qqn 24 imm cond else(qr (57344,[(imm,1,11,0,())]),0,false,())):=by
  refine Eq.trans (b:=(bif w then(bif (PO.val (qed (24,rd,rn,rm,ra,imm,cond,w,()))).isSome then some ((PO.val (qed (24,rd,rn,rm,ra,imm,cond,w,()))).getD default) else none) else(bif qbe (57344,[(imm,1,11,0,())]) then some (qr (57344,[(imm,1,11,0,())]),0,false,()) else none))) rfl ?_
  rw[e,g]
  cases w<;>rfl
 have c:qcJ 24 rd rn rm ra imm cond w=(bif w then qqn 24 imm cond else(qr (57344,[(imm,1,11,0,())]),0,false,())):=rfl
 rw[b,o,c]
 rfl
theorem qPE (rd rn rm ra imm cond:Int) (w:Bool) (_:qk (25,rd,rn,rm,ra,imm,cond,w,())=0):(qY (25,rd,rn,rm,ra,imm,cond,w,())).val=some (qcJ 25 rd rn rm ra imm cond w):=by
 have b:(qY (25,rd,rn,rm,ra,imm,cond,w,())).val=(bif (PO.val (q0 (25,rd,rn,rm,ra,imm,cond,w,()))).isSome then some ((PO.val (q0 (25,rd,rn,rm,ra,imm,cond,w,()))).getD default) else none):=rfl
 have e:(qed (25,rd,rn,rm,ra,imm,cond,w,())).val=some (qqn 25 imm cond):=qIU 25 rd rn rm ra imm cond w
 have g:qbe (53248,[(cond,0,4,8,()),(imm,1,8,0,())])=true:=qnR 53248 [(cond,0,4,8,()),(imm,1,8,0,())] (by omega) rfl
 have o:(q0 (25,rd,rn,rm,ra,imm,cond,w,())).val=some (bif w then qqn 25 imm cond else(qr (53248,[(cond,0,4,8,()),(imm,1,8,0,())]),0,false,())):=by
  refine Eq.trans (b:=(bif w then(bif (PO.val (qed (25,rd,rn,rm,ra,imm,cond,w,()))).isSome then some ((PO.val (qed (25,rd,rn,rm,ra,imm,cond,w,()))).getD default) else none) else(bif qbe (53248,[(cond,0,4,8,()),(imm,1,8,0,())]) then some (qr (53248,[(cond,0,4,8,()),(imm,1,8,0,())]),0,false,()) else none))) rfl ?_
  rw[e,g]
  cases w<;>rfl
 have c:qcJ 25 rd rn rm ra imm cond w=(bif w then qqn 25 imm cond else(qr (53248,[(cond,0,4,8,()),(imm,1,8,0,())]),0,false,())):=rfl
 rw[b,o,c]
 rfl
theorem qNN (op rd rn rm ra imm cond:Int) (w:Bool) (h:qk (op,rd,rn,rm,ra,imm,cond,w,())=0):(qY (op,rd,rn,rm,ra,imm,cond,w,())).val=some (qcJ op rd rn rm ra imm cond w):=by
 rcases qgO op with rfl |rfl |rfl |rfl |rfl |rfl |rfl |rfl |rfl |rfl |rfl |rfl |rfl |rfl |rfl |rfl |rfl |rfl |rfl |rfl |rfl |rfl |rfl |rfl |rfl |hop
 case inr.inr.inr.inr.inr.inr.inr.inr.inr.inr.inr.inr.inr.inr.inr.inr.inr.inr.inr.inr.inr.inr.inr.inr.inr =>
  exfalso
  have e:=fun k hk=>qpQ (n:=op) (k:=k) hop hk
  simp[qk,qcB,qbq,qcM,PO.qQ,PO.val,e] at h
 ·exact qRO rd rn rm ra imm cond w h
 ·exact qRg rd rn rm ra imm cond w h
 ·exact qSq rd rn rm ra imm cond w h
 ·exact qSk rd rn rm ra imm cond w h
 ·exact qRv rd rn rm ra imm cond w h
 ·exact qRJ rd rn rm ra imm cond w h
 ·exact qR4 rd rn rm ra imm cond w h
 ·exact qRo rd rn rm ra imm cond w h
 ·exact qRU rd rn rm ra imm cond w h
 ·exact qPY rd rn rm ra imm cond w h
 ·exact qP8 rd rn rm ra imm cond w h
 ·exact qQG rd rn rm ra imm cond w h
 ·exact qPK rd rn rm ra imm cond w h
 ·exact qQb rd rn rm ra imm cond w h
 ·exact qQr rd rn rm ra imm cond w h
 ·exact qPI rd rn rm ra imm cond w h
 ·exact qQw rd rn rm ra imm cond w h
 ·exact qP4 rd rn rm ra imm cond w h
 ·exact qPS rd rn rm ra imm cond w h
 ·exact qQQ rd rn rm ra imm cond w h
 ·exact qQY rd rn rm ra imm cond w h
 ·exact qQs rd rn rm ra imm cond w h
 ·exact qPP rd rn rm ra imm cond w h
 ·exact qQz rd rn rm ra imm cond w h
 ·exact qPE rd rn rm ra imm cond w h
theorem qMM (op rd rn rm ra imm cond:Int) (w:Bool) (h:qk (op,rd,rn,rm,ra,imm,cond,w,())=0):(qcJ op rd rn rm ra imm cond w).2.2.1=qi7 op w:=by
 have hwide:∀op:Int,(qqn op imm cond).2.2.1=true:=fun op=>by unfold qqn;cases op==25<;>rfl
 rcases qgO op with rfl |rfl |rfl |rfl |rfl |rfl |rfl |rfl |rfl |rfl |rfl |rfl |rfl |rfl |rfl |rfl |rfl |rfl |rfl |rfl |rfl |rfl |rfl |rfl |rfl |hop
 case inr.inr.inr.inr.inr.inr.inr.inr.inr.inr.inr.inr.inr.inr.inr.inr.inr.inr.inr.inr.inr.inr.inr.inr.inr =>
  exfalso
  have e:=fun k hk=>qpQ (n:=op) (k:=k) hop hk
  simp[qk,qcB,qbq,qcM,PO.qQ,PO.val,e] at h
 all_goals
  have hw:w=false∨w=true:=by cases w<;>simp
  rcases hw with rfl |rfl
  ·rfl
  ·first
   |(exfalso;simp[qk,qcB,PO.qQ,PO.val] at h;done)
   |rfl
   |exact hwide _
end Go.Av
end
section
namespace Go.Av
open Go
abbrev qn5:List Ty:=[qbd]
abbrev qqh:Sh:=Sh.ty (Ty.int IntKind.i64)
def qtG (x:qc qn5):PO (Sh.den qqh) :=
 (.ite (qk x != 0)
  (.ret (0))
  (.ite (qqi x)
  (.ite ((qqs x).2.2.1)
   (.ret (4))
   (.ret (2)))
  .fail))
def qtt (_:qc qn5):Bool:=true
def qoi (x:qc qn5):Sh.den qqh:=bif qk x != 0 then 0 else bif qi7 x.1 x.2.2.2.2.2.2.2.1 then 4 else 2
theorem qOO (x:qbd.den):(qtG x).val=some (bif qk x != 0 then 0 else bif qi7 x.1 x.2.2.2.2.2.2.2.1 then 4 else 2):=by
 obtain⟨op,rd,rn,rm,ra,imm,cond,w,u⟩:=x
 show(bif qk (op,rd,rn,rm,ra,imm,cond,w,()) != 0 then some 0 else(bif (qY (op,rd,rn,rm,ra,imm,cond,w,())).val.isSome then(bif ((qY (op,rd,rn,rm,ra,imm,cond,w,())).val.getD default).2.2.1 then some 4 else some 2) else none))=some (bif qk (op,rd,rn,rm,ra,imm,cond,w,()) != 0 then 0 else bif qi7 op w then 4 else 2)
 cases hc:(qk (op,rd,rn,rm,ra,imm,cond,w,()) != (0:Int))
 ·have h:qk (op,rd,rn,rm,ra,imm,cond,w,())=0:=by simpa using hc
  rw[qNN op rd rn rm ra imm cond w h]
  show(bif (qcJ op rd rn rm ra imm cond w).2.2.1 then some 4 else some 2)=some (bif qi7 op w then 4 else 2)
  rw[qMM op rd rn rm ra imm cond w h]
  cases qi7 op w<;>rfl
 ·rfl
theorem qFI (x:qc qn5) (_:qtt x=true):(qtG x).val=some (qoi x):=qOO x
end Go.Av
end
section
namespace Go.Av
open Go
abbrev qhy:List Ty:=[qbd]
abbrev qj1:Sh:=Sh.ty (Ty.int IntKind.i64)
def qj8 (x:qc qhy):PO (Sh.den qj1) :=
 (.ite (qbz x)
  (.ite (qo x != 0)
  (.ret (0))
  (.ret (w64 (Int.tdiv (qh (qb (x.1,x.2.2.2.2.2.2.2.1))) 8))))
  .fail)
theorem qJn (x:qbd.den):(qj8 x).val=some (bif qk x != 0 then 0 else bif qi7 x.1 x.2.2.2.2.2.2.2.1 then 4 else 2):=by
 unfold qj8
 dsimp only[PO.val]
 rw[qtE,←qoK]
 cases hc:(qk x != (0:Int))
 ·obtain⟨op,rd,rn,rm,ra,imm,cond,w,u⟩:=x
  have h:qk (op,rd,rn,rm,ra,imm,cond,w,())=0:=by simpa using hc
  show some (w64 (Int.tdiv (qh (qb (op,w))) 8))=some (bif qi7 op w then 4 else 2)
  rcases qgO op with rfl |rfl |rfl |rfl |rfl |rfl |rfl |rfl |rfl |rfl |rfl |rfl |rfl |rfl |rfl |rfl |rfl |rfl |rfl |rfl |rfl |rfl |rfl |rfl |rfl |hop
  case inr.inr.inr.inr.inr.inr.inr.inr.inr.inr.inr.inr.inr.inr.inr.inr.inr.inr.inr.inr.inr.inr.inr.inr.inr =>
   exfalso
   have e:=fun k hk=>qpQ (n:=op) (k:=k) hop hk
   simp[qk,qcB,qbq,qcM,PO.qQ,PO.val,e] at h
  all_goals
   have hw:w=false∨w=true:=by cases w<;>simp
   rcases hw with rfl |rfl
   ·rfl
   ·first
    |(exfalso;simp[qk,qcB,PO.qQ,PO.val] at h;done)
    |rfl
 ·rfl
def qni (_:qc qhy):Bool:=true
def qdd (x:qc qhy):Sh.den qj1:=bif qk x != 0 then 0 else bif qi7 x.1 x.2.2.2.2.2.2.2.1 then 4 else 2
theorem qvx (x:qc qhy) (_:qni x=true):(qj8 x).val=some (qdd x):=qJn x
end Go.Av
end
section
namespace Go.Av
open Go
abbrev qiq:List Ty:=[(.int .i64),(.int .i64)]
abbrev qkS:Sh:=Sh.ty (Ty.int IntKind.i64)
def qsa (x:qc qiq):PO (Sh.den qkS) :=
 (.ret (qq (w64 (qq x.1+qq x.2))))
def qon (_:qc qiq):Bool:=true
def qic (x:qc qiq):Sh.den qkS:=(wn (x.1+x.2):Int)
theorem qwM (x:qc qiq) (_:qon x=true):(qsa x).val=some (qic x):=by
 obtain⟨a,b⟩:=x
 show some ((wn (w64 ((wn a:Int)+(wn b:Int))):Nat):Int)=some ((wn (a+b):Nat):Int)
 rw[show wn (w64 ((wn a:Int)+(wn b:Int)))=wn (a+b) from qxU (by rw[qlR,qlN,qlN];omega)]
abbrev qhT:List Ty:=[(.int .i64),(.int .i64)]
abbrev qkF:Sh:=Sh.ty (Ty.int IntKind.i64)
def qsm (x:qc qhT):PO (Sh.den qkF) :=
 (.ret (qq (w64 (w64 (qq x.1+4294967296)-qq x.2))))
def qn7 (_:qc qhT):Bool:=true
def qdp (x:qc qhT):Sh.den qkF:=(wn (x.1-x.2):Int)
theorem qwC (x:qc qhT) (_:qn7 x=true):(qsm x).val=some (qdp x):=by
 obtain⟨a,b⟩:=x
 show some ((wn (w64 (w64 ((wn a:Int)+4294967296)-(wn b:Int))):Nat):Int)=some ((wn (a-b):Nat):Int)
 have ha:=qdB a
 rw[show wn (w64 (w64 ((wn a:Int)+4294967296)-(wn b:Int)))=wn (a-b) from qxU (by rw[qlR,qt (by omega) (by omega),qlN,qlN];omega)]
theorem qye {m:Nat} (h:m<18446744073709551616):IntKind.u64.wrap (m:Int)=m:=by rw[qtU,Int.emod_eq_of_lt (by omega) (by omega)]
theorem qHA (a b:Int):IntKind.u64.wrap (IntKind.u64.wrap (wn a:Int)*IntKind.u64.wrap (wn b:Int))=((wn a*wn b:Nat):Int):=by
 have h1:=qdB a
 have h2:=qdB b
 have h3:=qzi a b
 rw[qye (by omega),qye (by omega),show(wn a:Int)*(wn b:Int)=((wn a*wn b:Nat):Int) by simp,qye (by omega)]
abbrev qiu:List Ty:=[(.int .i64),(.int .i64)]
abbrev qlm:Sh:=Sh.ty (Ty.int IntKind.i64)
def qr7 (x:qc qiu):PO (Sh.den qlm) :=
 (.ret (w64 (Int.tmod (IntKind.wrap IntKind.u64 (IntKind.wrap IntKind.u64 (qq x.1)*IntKind.wrap IntKind.u64 (qq x.2))) 4294967296)))
def qn2 (_:qc qiu):Bool:=true
def qh0 (x:qc qiu):Sh.den qlm:=((wn x.1*wn x.2 % 4294967296:Nat):Int)
theorem qwH (x:qc qiu) (_:qn2 x=true):(qr7 x).val=some (qh0 x):=by
 obtain⟨a,b⟩:=x
 show some (w64 (Int.tmod (IntKind.u64.wrap (IntKind.u64.wrap (wn a:Int)*IntKind.u64.wrap (wn b:Int))) 4294967296))=some ((wn a*wn b % 4294967296:Nat):Int)
 rw[qHA,qmv _ _ (by omega),qt (by omega) (by omega)]
 congr 1
abbrev qho:List Ty:=[(.int .i64),(.int .i64)]
abbrev qj7:Sh:=Sh.ty (Ty.int IntKind.i64)
def qq3 (x:qc qho):PO (Sh.den qj7) :=
 (.ret (w64 (IntKind.wrap IntKind.u64 (Int.tdiv (IntKind.wrap IntKind.u64 (IntKind.wrap IntKind.u64 (qq x.1)*IntKind.wrap IntKind.u64 (qq x.2))) 4294967296))))
def qnj (_:qc qho):Bool:=true
def qfp (x:qc qho):Sh.den qj7:=((wn x.1*wn x.2 / 4294967296:Nat):Int)
theorem qvs (x:qc qho) (_:qnj x=true):(qq3 x).val=some (qfp x):=by
 obtain⟨a,b⟩:=x
 have h3:=qzi a b
 have e1:((wn a*wn b:Nat):Int) / 4294967296=((wn a*wn b / 4294967296:Nat):Int):=by omega
 show some (w64 (IntKind.u64.wrap (Int.tdiv (IntKind.u64.wrap (IntKind.u64.wrap (wn a:Int)*IntKind.u64.wrap (wn b:Int))) 4294967296)))=some ((wn a*wn b / 4294967296:Nat):Int)
 rw[qHA,qpN _ _ (by omega),e1,qye (by omega),qt (by omega) (by omega)]
theorem qzl (n:Int):qbh (qN n)=((2 ^ kk n:Nat):Int):=by
 show((2 ^ Int.toNat (kk n:Int):Nat):Int)=_
 rw[Int.toNat_natCast]
theorem qt1 (n:Int):qb6 (qN n)=true:=by
 have:=qs3 n
 exact qK (show(kk n:Int)≤62 by omega)
theorem qEp (n:Int):(((2 ^ kk n:Nat):Int)==0)=false:=by
 have:=Nat.two_pow_pos (kk n)
 rw[beq_eq_false_iff_ne]
 omega
def bt (m j:Nat):Nat:=m / 2 ^ j % 2
theorem qhc (m j:Nat):bt m j=(m.testBit j).toNat:=(Nat.toNat_testBit m j).symm
theorem qwh (m j:Nat):bt m j≤1:=by unfold bt;omega
abbrev qip:List Ty:=[(.int .i64),(.int .i64)]
abbrev qk0:Sh:=Sh.ty (Ty.int IntKind.i64)
def qr6 (x:qc qip):PO (Sh.den qk0) :=
 (.ite (qb6 (qN x.2)&&!qbh (qN x.2)==0)
  (.ret (Int.tmod (w64 (Int.tdiv (qq x.1) (qbh (qN x.2)))) 2))
  .fail)
def qeR (_:qc qip):Bool:=true
def q8 (x:qc qip):Sh.den qk0:=(bt (wn x.1) (kk x.2):Int)
theorem qwz (x:qc qip) (_:qeR x=true):(qr6 x).val=some (q8 x):=by
 obtain⟨a,n⟩:=x
 have hl:=qdB a
 have hd:wn a / 2 ^ kk n≤wn a:=Nat.div_le_self _ _
 show(bif qb6 (qN n)&&!(qbh (qN n)==(0:Int)) then some (Int.tmod (w64 (Int.tdiv (wn a:Int) (qbh (qN n)))) 2) else none)=some ((bt (wn a) (kk n):Nat):Int)
 rw[qt1,qzl,qEp,qpN _ _ (by omega),←Int.natCast_ediv]
 unfold bt
 generalize wn a / 2 ^ kk n=q at hd
 rw[qt (by omega) (by omega),qmv _ _ (by omega)]
 rfl
def qcY:LoopN where
 M:=[0,1,2,3,9,10]
 T:=[11,12,13,14,15,16,17,18,19,20,21,22,23,24,25,26,27,28,29,30,31,32,33,34,35,36,37,38,39,40,41,42,43,44,45,46,47,48,49,50,51,52,53,54]
 D:=[0,1,2,3,10]
 ss:=[.ty (.int .i64),.ty (.int .i64),.ty (.int .i64),.ty (.int .i64),.ty (.int .i64),.ty (.int .i64)]
 hs:=[]
 es:=[.exit 0]
 σ:=(Ty.den (.int .i64))×(Ty.den (.int .i64))
 x0:=fun x _=>(x.2.2.2.2.1,x.2.2.2.2.2)
 put:=fun x _ s=>((x.1,x.2.1,x.2.2.1,x.2.2.2.1,s.1,s.2),())
 fuel:=fun _ _=>40
 turn:=fun x _ s =>
 (.ite (decide (s.2≥0))
  (.ite (qeR (x.2.1,s.2)&&qeR (x.2.2.1,s.2))
  (.ite (x.2.2.2.1==0||(x.2.2.2.1==1||(x.2.2.2.1==2||(x.2.2.2.1==3||qeR (x.1,s.2)))))
   (.ret (.on (w64 (w64 (2*s.1)+bif x.2.2.2.1==0 then w64 (1-q8 (x.2.1,s.2)) else bif x.2.2.2.1==1 then w64 (q8 (x.2.1,s.2)*q8 (x.2.2.1,s.2)) else bif x.2.2.2.1==2 then imax (q8 (x.2.1,s.2)) (q8 (x.2.2.1,s.2)) else bif x.2.2.2.1==3 then Int.tmod (w64 (q8 (x.2.1,s.2)+q8 (x.2.2.1,s.2))) 2 else bif q8 (x.1,s.2)==1 then q8 (x.2.1,s.2) else q8 (x.2.2.1,s.2)),w64 (s.2-1))))
   .fail)
  .fail)
  (.ret (.out 0 (s.1,s.2))))
abbrev qgM:List Ty:=[(.int .i64),(.int .i64),(.int .i64),(.int .i64)]
abbrev qjs:Sh:=Sh.ty (Ty.int IntKind.i64)
def qmp (x:qc qgM):PO (Sh.den qjs) :=
 (.opt (LoopN.res qcY (x.1,x.2.1,x.2.2.1,x.2.2.2,0,31) ()) fun p0 =>
  (.ret (p0.2.1)))
def qkB (m a b:Nat) (kind:Int):Nat :=
 bif kind==0 then 4294967295-a else bif kind==1 then a &&& b else bif kind==2 then a |||b else bif kind==3 then a ^^^ b else(a &&& m) |||(b &&& (4294967295-m))
theorem qMc {a j:Nat} (ha:a<4294967296) (hj:j<32):bt (4294967295-a) j=1-bt a j:=by
 have h:(4294967295-a).testBit j=!a.testBit j:=by
  rw[show 4294967295-a=2 ^ 32-(a+1) by omega,Nat.testBit_two_pow_sub_succ (by omega),decide_eq_true hj,Bool.true_and]
 rw[qhc,qhc,h]
 cases a.testBit j<;>rfl
theorem qOM {m a b j:Nat} (hm:m<4294967296) (ha:a<4294967296) (hj:j<32) (kind:Int) :
  bt (qkB m a b kind) j=bif kind==0 then 1-bt a j else bif kind==1 then bt a j*bt b j else bif kind==2 then max (bt a j) (bt b j) else bif kind==3 then(bt a j+bt b j) % 2 else bif bt m j==1 then bt a j else bt b j:=by
 unfold qkB
 cases kind==0
 ·cases kind==1
  ·cases kind==2
   ·cases kind==3
    ·simp only[cond_false]
     have hn:=qMc hm hj
     have h1:bt ((a &&& m) |||(b &&& (4294967295-m))) j=((a.testBit j&&m.testBit j)||(b.testBit j&&(4294967295-m).testBit j)).toNat:=by
      rw[qhc,Nat.testBit_or,Nat.testBit_and,Nat.testBit_and]
     rw[qhc,qhc] at hn
     rw[h1,qhc a,qhc b,qhc m]
     revert hn
     cases m.testBit j<;>cases a.testBit j<;>cases b.testBit j<;>cases (4294967295-m).testBit j<;>simp
    ·simp only[cond_false,cond_true]
     rw[qhc,qhc,qhc,Nat.testBit_xor]
     cases a.testBit j<;>cases b.testBit j<;>rfl
   ·simp only[cond_false,cond_true]
    rw[qhc,qhc,qhc,Nat.testBit_or]
    cases a.testBit j<;>cases b.testBit j<;>rfl
  ·simp only[cond_false,cond_true]
   rw[qhc,qhc,qhc,Nat.testBit_and]
   cases a.testBit j<;>cases b.testBit j<;>rfl
 ·simp only[cond_true]
  exact qMc ha hj
theorem qNG {m a b:Nat} (ha:a<4294967296) (hb:b<4294967296) (kind:Int):qkB m a b kind<4294967296:=by
 unfold qkB
 cases kind==0
 ·cases kind==1
  ·cases kind==2
   ·cases kind==3
    ·have h1:a &&& m≤a:=Nat.and_le_left
     have h2:b &&& (4294967295-m)≤b:=Nat.and_le_left
     exact Nat.or_lt_two_pow (n:=32) (by omega) (by omega)
    ·exact Nat.xor_lt_two_pow (n:=32) ha hb
   ·exact Nat.or_lt_two_pow (n:=32) ha hb
  ·have h1:a &&& b≤a:=Nat.and_le_left
   simp only[cond_false,cond_true]
   omega
 ·simp only[cond_true]
  omega
theorem qMe (f j:Nat):f / 2 ^ j=2*(f / 2 ^ (j+1))+bt f j:=by
 unfold bt
 rw[Nat.pow_succ,←Nat.div_div_eq_div_mul]
 omega
theorem qNe (m a b kind:Int):qcF (qcY.turn (m,a,b,kind,0,31) ()) 40 (0,31)=some (0,((qkB (wn m) (wn a) (wn b) kind:Nat):Int),-1):=by
 have hF:=qNG (m:=wn m) (qdB a) (qdB b) kind
 have h0:qkB (wn m) (wn a) (wn b) kind / 2 ^ 32=0:=Nat.div_eq_of_lt hF
 have key:=qhP (σ:=Int×Int) (turn:=qcY.turn (m,a,b,kind,0,31) ()) (fun i=>(((qkB (wn m) (wn a) (wn b) kind / 2 ^ (32-i):Nat):Int),31-(i:Int))) (0,((qkB (wn m) (wn a) (wn b) kind:Nat):Int),-1) (n:=32) (fun i hi=>?_) ?_ 32 0 (by omega) 40 (by omega)
 ·simp[h0] at key
  exact key
 ·have hk:kk (31-(i:Int))=31-i:=by unfold kk;omega
  have hd:=qMe (qkB (wn m) (wn a) (wn b) kind) (31-i)
  rw[show 31-i+1=32-i by omega] at hd
  have hb:=qOM (b:=wn b) (qdB m) (qdB a) (show 31-i<32 by omega) kind
  have hle:qkB (wn m) (wn a) (wn b) kind / 2 ^ (32-i)≤qkB (wn m) (wn a) (wn b) kind:=Nat.div_le_self _ _
  have ha1:=qwh (wn a) (31-i)
  have hb1:=qwh (wn b) (31-i)
  have hm1:=qwh (wn m) (31-i)
  have e:(bif kind==0 then w64 (1-(bt (wn a) (31-i):Int)) else bif kind==1 then w64 ((bt (wn a) (31-i):Int)*(bt (wn b) (31-i):Int)) else bif kind==2 then imax (bt (wn a) (31-i):Int) (bt (wn b) (31-i):Int) else bif kind==3 then Int.tmod (w64 ((bt (wn a) (31-i):Int)+(bt (wn b) (31-i):Int))) 2 else bif (bt (wn m) (31-i):Int)==1 then(bt (wn a) (31-i):Int) else(bt (wn b) (31-i):Int))=((bt (qkB (wn m) (wn a) (wn b) kind) (31-i):Nat):Int):=by
   rw[hb]
   generalize bt (wn a) (31-i)=p at *
   generalize bt (wn b) (31-i)=q at *
   generalize bt (wn m) (31-i)=r at *
   have hp:p=0∨p=1:=by omega
   have hq:q=0∨q=1:=by omega
   have hr:r=0∨r=1:=by omega
   rcases hp with rfl |rfl<;>rcases hq with rfl |rfl<;>rcases hr with rfl |rfl<;>cases kind==0<;>cases kind==1<;>cases kind==2<;>cases kind==3<;>rfl
  have hbl:=qwh (qkB (wn m) (wn a) (wn b) kind) (31-i)
  have hs:decide (31-(i:Int)≥0)=true:=qK (by omega)
  simp only[qcY,PO.val,hs,cond_true,q8,qeR,Bool.and_self,Bool.or_true,hk]
  rw[e,show 32-(i+1)=31-i by omega,hd]
  generalize bt (qkB (wn m) (wn a) (wn b) kind) (31-i)=q at *
  generalize qkB (wn m) (wn a) (wn b) kind / 2 ^ (32-i)=p at *
  rw[qt (n:=2*(p:Int)) (by omega) (by omega),qt (by omega) (by omega),qt (by omega) (by omega)]
  refine congrArg (fun z=>some (TL.on z)) (Prod.ext ?_ ?_)
  ·show 2*(p:Int)+(q:Int)=((2*p+q:Nat):Int)
   omega
  ·show 31-(i:Int)-1=31-((i+1:Nat):Int)
   omega
 ·have hs:decide ((31:Int)-((32:Nat):Int)≥0)=false:=qW (by omega)
  simp only[qcY,PO.val,hs,cond_false]
  simp
def qmu (_:qc qgM):Bool:=true
def qd2 (x:qc qgM):Sh.den qjs:=(qkB (wn x.1) (wn x.2.1) (wn x.2.2.1) x.2.2.2:Int)
theorem quN (x:qc qgM) (_:qmu x=true):(qmp x).val=some (qd2 x):=by
 obtain⟨m,a,b,kind⟩:=x
 unfold qmp PO.val
 have:LoopN.res qcY (m,a,b,kind,0,31) ()=some (0,((qkB (wn m) (wn a) (wn b) kind:Nat):Int),-1):=qNe m a b kind
 rw[this]
 rfl
def qd3:LoopN where
 M:=[1,5,6]
 T:=[9,10,11,12,13,14,15,16,17,18,19,20]
 D:=[1,6]
 ss:=[.ty (.int .i64),.ty (.int .i64),.ty (.int .i64)]
 hs:=[]
 es:=[.exit 0]
 σ:=(Ty.den (.int .i64))×(Ty.den (.int .i64))
 x0:=fun x _=>(x.2.1,x.2.2)
 put:=fun x _ s=>((x.1,s.1,s.2),())
 fuel:=fun _ _=>40
 turn:=fun x _ s =>
 (.ite (decide (s.2<qN x.1))
  (.ret (.on (w64 (w64 (Int.tdiv s.1 2)+w64 (w64 (Int.tdiv s.1 2147483648)*2147483648)),w64 (s.2+1))))
  (.ret (.out 0 (s.1,s.2))))
abbrev qig:List Ty:=[(.int .i64),(.int .i64)]
abbrev qkM:Sh:=Sh.ty (Ty.int IntKind.i64)
def qn4 (x:qc qig):PO (Sh.den qkM) :=
 (.opt (LoopN.res qd3 (x.2,qq x.1,0) ()) fun p0 =>
  (.ret (p0.2.1)))
theorem qyS {m:Nat} (h:m<4294967296):-2147483648≤sw m∧sw m<2147483648:=by unfold sw;split<;>omega
theorem qSK {m:Nat} (h:m<4294967296):wn (sw m)=m:=by unfold sw wn;split<;>omega
theorem qMF {q:Int} (h:-2147483648≤q∧q<2147483648) (k:Nat):-2147483648≤q / (2 ^ k:Nat)∧q / (2 ^ k:Nat)<2147483648:=by
 induction k with
 |zero=>simpa using h
 |succ k ih =>
  have e:q / ((2 ^ (k+1):Nat):Int)=q / ((2 ^ k:Nat):Int) / 2:=by
   rw[Nat.pow_succ,Int.natCast_mul,Int.ediv_ediv_of_nonneg (Int.natCast_nonneg _)]
   rfl
  rw[e]
  omega
theorem qOT {q:Int} (h:-2147483648≤q∧q<2147483648):wn q / 2+wn q / 2147483648*2147483648=wn (q / 2):=by unfold wn;omega
theorem qP2 (a n:Int):qcF (qd3.turn (n,(wn a:Int),0) ()) 40 ((wn a:Int),0)=some (0,((wn (sw (wn a) / (2 ^ kk n:Nat)):Nat):Int),(kk n:Int)):=by
 have hk:=qs3 n
 have key:=qhP (σ:=Int×Int) (turn:=qd3.turn (n,(wn a:Int),0) ()) (fun i=>(((wn (sw (wn a) / (2 ^ i:Nat)):Nat):Int),(i:Int))) (0,((wn (sw (wn a) / (2 ^ kk n:Nat)):Nat):Int),(kk n:Int)) (n:=kk n) (fun i hi=>?_) ?_ (kk n) 0 (by omega) 40 (by omega)
 ·simp[qSK (qdB a)] at key
  simp
  exact key
 ·have h1:decide ((i:Int)<(kk n:Int))=true:=qK (by omega)
  have hr:=qMF (qyS (qdB a)) i
  have e:sw (wn a) / ((2 ^ (i+1):Nat):Int)=sw (wn a) / ((2 ^ i:Nat):Int) / 2:=by
   rw[Nat.pow_succ,Int.natCast_mul,Int.ediv_ediv_of_nonneg (Int.natCast_nonneg _)]
   rfl
  have hst:=qOT hr
  rw[e,←hst]
  have hl:=qdB (sw (wn a) / ((2 ^ i:Nat):Int))
  show(bif decide ((i:Int)<(kk n:Int)) then _ else _)=_
  rw[h1]
  show some (TL.on (w64 (w64 (Int.tdiv ((wn (sw (wn a) / ((2 ^ i:Nat):Int)):Nat):Int) 2)+w64 (w64 (Int.tdiv ((wn (sw (wn a) / ((2 ^ i:Nat):Int)):Nat):Int) 2147483648)*2147483648)),w64 ((i:Int)+1)))=_
  generalize wn (sw (wn a) / ((2 ^ i:Nat):Int))=p at *
  rw[qpN _ _ (by omega),qpN _ _ (by omega),qt (n:=(p:Int) / 2) (by omega) (by omega),qt (n:=(p:Int) / 2147483648) (by omega) (by omega),qt (n:=(p:Int) / 2147483648*2147483648) (by omega) (by omega),qt (by omega) (by omega),qt (by omega) (by omega)]
  congr 2
 ·show(bif decide ((kk n:Int)<(kk n:Int)) then _ else _)=_
  rw[qW (by omega)]
  rfl
def qnW (_:qc qig):Bool:=true
def qkC (x:qc qig):Sh.den qkM:=(wn (sw (wn x.1) / (2 ^ kk x.2:Nat)):Int)
theorem qwF (x:qc qig) (_:qnW x=true):(qn4 x).val=some (qkC x):=by
 obtain⟨a,n⟩:=x
 unfold qn4 PO.val
 have:LoopN.res qd3 (n,(wn a:Int),0) ()=some (0,((wn (sw (wn a) / (2 ^ kk n:Nat)):Nat):Int),(kk n:Int)):=qP2 a n
 rw[show LoopN.res qd3 ((a,n).2,qq (a,n).1,0) ()=_ from this]
 rfl
def qec:LoopN where
 M:=[1,5,6]
 T:=[9,10,11,12,13,14,15,16,17,18,19,20]
 D:=[1,6]
 ss:=[.ty (.int .i64),.ty (.int .i64),.ty (.int .i64)]
 hs:=[]
 es:=[.exit 0]
 σ:=(Ty.den (.int .i64))×(Ty.den (.int .i64))
 x0:=fun x _=>(x.2.1,x.2.2)
 put:=fun x _ s=>((x.1,s.1,s.2),())
 fuel:=fun _ _=>40
 turn:=fun x _ s =>
 (.ite (decide (s.2<qN x.1))
  (.ret (.on (w64 (w64 (Int.tdiv s.1 2)+w64 (Int.tmod s.1 2*2147483648)),w64 (s.2+1))))
  (.ret (.out 0 (s.1,s.2))))
abbrev qhW:List Ty:=[(.int .i64),(.int .i64)]
abbrev qkz:Sh:=Sh.ty (Ty.int IntKind.i64)
def qnT (x:qc qhW):PO (Sh.den qkz) :=
 (.opt (LoopN.res qec (x.2,qq x.1,0) ()) fun p0 =>
  (.ret (p0.2.1)))
def qpI (m k:Nat):Nat:=m / 2 ^ k+m % 2 ^ k*2 ^ (32-k)
theorem qJj (m:Nat) {k:Nat} (hk:k<32):qpI m k / 2+qpI m k % 2*2147483648=qpI m (k+1):=by
 unfold qpI
 have h1:m / 2 ^ (k+1)=m / 2 ^ k / 2:=by rw[Nat.pow_succ,Nat.div_div_eq_div_mul]
 have h2:m % 2 ^ (k+1)=m % 2 ^ k+2 ^ k*(m / 2 ^ k % 2):=by rw[Nat.pow_succ,Nat.mod_mul]
 obtain⟨j,hj⟩:∃j,32-k=j+1:=⟨31-k,by omega⟩
 have h4:2 ^ k*2 ^ j=2147483648:=by rw[←Nat.pow_add,show k+j=31 by omega]
 rw[h1,h2,hj,show 32-(k+1)=j by omega,Nat.add_mul,Nat.mul_right_comm,h4,Nat.pow_succ,←Nat.mul_assoc]
 generalize m % 2 ^ k*2 ^ j=p
 generalize m / 2 ^ k=q
 omega
theorem qPR {m k:Nat} (hm:m<4294967296) (hk:k≤32):qpI m k<4294967296:=by
 induction k with
 |zero=>simpa [qpI,Nat.mod_one] using hm
 |succ k ih =>
  rw[←qJj m (by omega)]
  have:=ih (by omega)
  omega
theorem qQd (a n:Int):qcF (qec.turn (n,(wn a:Int),0) ()) 40 ((wn a:Int),0)=some (0,((qpI (wn a) (kk n):Nat):Int),(kk n:Int)):=by
 have hk:=qs3 n
 have key:=qhP (σ:=Int×Int) (turn:=qec.turn (n,(wn a:Int),0) ()) (fun i=>(((qpI (wn a) i:Nat):Int),(i:Int))) (0,((qpI (wn a) (kk n):Nat):Int),(kk n:Int)) (n:=kk n) (fun i hi=>?_) ?_ (kk n) 0 (by omega) 40 (by omega)
 ·rw[show qpI (wn a) 0=wn a by simp[qpI,Nat.mod_one]] at key
  exact key
 ·have h1:decide ((i:Int)<(kk n:Int))=true:=qK (by omega)
  have hst:=qJj (wn a) (show i<32 by omega)
  have hl:=qPR (qdB a) (show i≤32 by omega)
  rw[←hst]
  show(bif decide ((i:Int)<(kk n:Int)) then _ else _)=_
  rw[h1]
  show some (TL.on (w64 (w64 (Int.tdiv ((qpI (wn a) i:Nat):Int) 2)+w64 (Int.tmod ((qpI (wn a) i:Nat):Int) 2*2147483648)),w64 ((i:Int)+1)))=_
  generalize qpI (wn a) i=p at *
  rw[qpN _ _ (by omega),qmv _ _ (by omega),qt (n:=(p:Int) / 2) (by omega) (by omega),qt (n:=(p:Int) % 2*2147483648) (by omega) (by omega),qt (by omega) (by omega),qt (by omega) (by omega)]
  rfl
 ·show(bif decide ((kk n:Int)<(kk n:Int)) then _ else _)=_
  rw[qW (by omega)]
  rfl
def qoc (_:qc qhW):Bool:=true
def qli (x:qc qhW):Sh.den qkz:=((wn x.1 / 2 ^ kk x.2+wn x.1 % 2 ^ kk x.2*2 ^ (32-kk x.2):Nat):Int)
theorem qwy (x:qc qhW) (_:qoc x=true):(qnT x).val=some (qli x):=by
 obtain⟨a,n⟩:=x
 unfold qnT PO.val
 have:LoopN.res qec (n,(wn a:Int),0) ()=some (0,((qpI (wn a) (kk n):Nat):Int),(kk n:Int)):=qQd a n
 rw[show LoopN.res qec ((a,n).2,qq (a,n).1,0) ()=_ from this]
 rfl
end Go.Av
end
section
namespace Go.Av
open Go
abbrev qhZ:List Ty:=[(.int .i64)]
abbrev qkW:Sh:=Sh.ty (Ty.int IntKind.i64)
def qr5 (x:qc qhZ):PO (Sh.den qkW) :=
 (.ret (qd2 (0,x,0,0)))
def qnO (_:qc qhZ):Bool:=true
def qh6 (x:qc qhZ):Sh.den qkW:=((4294967295-wn x:Nat):Int)
theorem qwA (x:qc qhZ) (_:qnO x=true):(qr5 x).val=some (qh6 x):=rfl
abbrev qio:List Ty:=[(.int .i64),(.int .i64)]
abbrev qkQ:Sh:=Sh.ty (Ty.int IntKind.i64)
def qsk (x:qc qio):PO (Sh.den qkQ) :=
 (.ret (qd2 (0,x.1,x.2,1)))
def qn1 (_:qc qio):Bool:=true
def qij (x:qc qio):Sh.den qkQ:=((wn x.1 &&& wn x.2:Nat):Int)
theorem qwN (x:qc qio) (_:qn1 x=true):(qsk x).val=some (qij x):=rfl
abbrev qi5:List Ty:=[(.int .i64),(.int .i64)]
abbrev qlJ:Sh:=Sh.ty (Ty.int IntKind.i64)
def qsH (x:qc qi5):PO (Sh.den qlJ) :=
 (.ret (qd2 (0,x.1,x.2,2)))
def qoU (_:qc qi5):Bool:=true
def qlE (x:qc qi5):Sh.den qlJ:=((wn x.1 |||wn x.2:Nat):Int)
theorem qxq (x:qc qi5) (_:qoU x=true):(qsH x).val=some (qlE x):=rfl
abbrev qia:List Ty:=[(.int .i64),(.int .i64)]
abbrev qlo:Sh:=Sh.ty (Ty.int IntKind.i64)
def qr8 (x:qc qia):PO (Sh.den qlo) :=
 (.ret (qd2 (0,x.1,x.2,3)))
def qnE (_:qc qia):Bool:=true
def qkH (x:qc qia):Sh.den qlo:=((wn x.1 ^^^ wn x.2:Nat):Int)
theorem qwD (x:qc qia) (_:qnE x=true):(qr8 x).val=some (qkH x):=rfl
abbrev qh7:List Ty:=[(.int .i64),(.int .i64)]
abbrev qkK:Sh:=Sh.ty (Ty.int IntKind.i64)
def qr1 (x:qc qh7):PO (Sh.den qkK) :=
 (.ite (qb6 (qN x.2)&&true)
  (.ret (qh0 (x.1,qbh (qN x.2))))
  .fail)
theorem qEv (n:Int):2 ^ kk n<4294967296:=Nat.pow_lt_pow_right (by omega) (qs3 n)
def qoj (_:qc qh7):Bool:=true
def qkR (x:qc qh7):Sh.den qkK:=((wn x.1*2 ^ kk x.2 % 4294967296:Nat):Int)
theorem qwG (x:qc qh7) (_:qoj x=true):(qr1 x).val=some (qkR x):=by
 obtain⟨a,n⟩:=x
 show(bif qb6 (qN n)&&true then some ((wn a*wn (qbh (qN n)) % 4294967296:Nat):Int) else none)=some ((wn a*2 ^ kk n % 4294967296:Nat):Int)
 rw[qt1,qzl,qgp (qEv n)]
 rfl
abbrev qim:List Ty:=[(.int .i64),(.int .i64)]
abbrev qkL:Sh:=Sh.ty (Ty.int IntKind.i64)
def qr4 (x:qc qim):PO (Sh.den qkL) :=
 (.ite (qb6 (qN x.2)&&!qbh (qN x.2)==0)
  (.ret (w64 (Int.tdiv (qq x.1) (qbh (qN x.2)))))
  .fail)
def qnQ (_:qc qim):Bool:=true
def qk1 (x:qc qim):Sh.den qkL:=((wn x.1 / 2 ^ kk x.2:Nat):Int)
theorem qwB (x:qc qim) (_:qnQ x=true):(qr4 x).val=some (qk1 x):=by
 obtain⟨a,n⟩:=x
 have hl:=qdB a
 have hd:wn a / 2 ^ kk n≤wn a:=Nat.div_le_self _ _
 show(bif qb6 (qN n)&&!(qbh (qN n)==(0:Int)) then some (w64 (Int.tdiv (wn a:Int) (qbh (qN n)))) else none)=some ((wn a / 2 ^ kk n:Nat):Int)
 rw[qt1,qzl,qEp,qpN _ _ (by omega),←Int.natCast_ediv]
 generalize wn a / 2 ^ kk n=q at hd
 rw[qt (by omega) (by omega)]
 rfl
abbrev qhm:List Ty:=[(.int .i64),(.int .i64)]
abbrev qkb:Sh:=Sh.ty (Ty.int IntKind.i64)
def qq2 (x:qc qhm):PO (Sh.den qkb) :=
 (.ite (qb6 (qN x.2))
  (.ite (q8 (x.1,x.2)==1)
  (.ret (w64 (qq x.1-qbh (qN x.2))))
  (.ret (w64 (qq x.1+qbh (qN x.2)))))
  .fail)
def flip (m j:Nat):Nat:=bif bt m j==1 then m-2 ^ j else m+2 ^ j
def qng (_:qc qhm):Bool:=true
def qep (x:qc qhm):Sh.den qkb:=(flip (wn x.1) (kk x.2):Int)
theorem qEC {m j:Nat} (h:bt m j=1):2 ^ j≤m:=by
 refine Nat.le_of_not_lt fun hlt=>?_
 unfold bt at h
 rw[Nat.div_eq_of_lt hlt] at h
 cases h
theorem qwc (x:qc qhm) (_:qng x=true):(qq2 x).val=some (qep x):=by
 obtain⟨a,n⟩:=x
 have hl:=qdB a
 have hp:=qEv n
 show(bif qb6 (qN n) then(bif ((bt (wn a) (kk n):Nat):Int)==1 then some (w64 ((wn a:Int)-qbh (qN n))) else some (w64 ((wn a:Int)+qbh (qN n)))) else none)=some ((flip (wn a) (kk n):Nat):Int)
 rw[qt1,qzl]
 have hb:=qwh (wn a) (kk n)
 have h1:bt (wn a) (kk n)=0∨bt (wn a) (kk n)=1:=by omega
 unfold flip
 rcases h1 with h1 |h1
 ·rw[h1]
  generalize 2 ^ kk n=q at *
  show some (w64 ((wn a:Int)+(q:Int)))=some ((wn a+q:Nat):Int)
  rw[qt (by omega) (by omega)]
  rfl
 ·have hle:=qEC h1
  rw[h1]
  generalize 2 ^ kk n=q at *
  show some (w64 ((wn a:Int)-(q:Int)))=some ((wn a-q:Nat):Int)
  rw[qt (by omega) (by omega),Int.ofNat_sub hle]
end Go.Av
end
section
namespace Go.Av
open Go
def qgm (l:List Int):List Int:=l.map fun n=>(wn n:Int)
theorem qsb (l:List Int):(qgm l).length=l.length:=by simp[qgm]
def qlq (l:List Int) (k:Nat):List Int:=(qgm l).take k++l.drop k
theorem qLQ (l:List Int) {k:Nat} (h:k<l.length):(qlq l k).getD k 0=l[k]:=by
 unfold qlq
 have h1:((qgm l).take k).length=k:=by rw[List.length_take,qsb];omega
 rw[List.getD_eq_getElem?_getD,List.getElem?_append_right (by omega),h1,Nat.sub_self,List.getElem?_drop,Nat.add_zero,List.getElem?_eq_getElem h]
 rfl
theorem qyD (l:List Int) {k:Nat} (h:k<l.length):(qlq l k).set k (wn l[k]:Int)=qlq l (k+1):=by
 unfold qlq
 have h1:((qgm l).take k).length=k:=by rw[List.length_take,qsb];omega
 rw[List.set_append_right _ _ (by omega),h1,Nat.sub_self,List.drop_eq_getElem_cons h,List.set_cons_zero,List.take_succ_eq_append_getElem (by rw[qsb];omega),List.append_assoc]
 simp[qgm]
theorem qzI (l:List Int) {k:Nat} (h:l.length≤k):qlq l k=qgm l:=by
 unfold qlq
 rw[List.take_of_length_le (by rw[qsb];omega),List.drop_of_length_le h,List.append_nil]
theorem qyv (l:List Int):qlq l 0=l:=by simp[qlq]
abbrev qo5:List Ty:=[qG,(.int .i64)]
abbrev qrX:Sh:=Sh.ty Ty.bool
def qrU (x:qc qo5):PO (Sh.den qrX) :=
 (.ite (decide (x.2<0)||decide (x.2 > 13))
  (.ret (false))
  (.ret ((bif qba IntKind.i64 x.2 1==0 then x.1.2.2.2.1 else bif qba IntKind.i64 x.2 1==1 then x.1.2.2.2.2.1 else bif qba IntKind.i64 x.2 1==2 then x.1.2.2.1 else bif qba IntKind.i64 x.2 1==3 then x.1.2.2.2.2.2.1 else bif qba IntKind.i64 x.2 1==4 then x.1.2.2.2.2.1&&!x.1.2.2.2.1 else bif qba IntKind.i64 x.2 1==5 then x.1.2.2.1==x.1.2.2.2.2.2.1 else qba IntKind.i64 x.2 1==6&&(!x.1.2.2.2.1&&x.1.2.2.1==x.1.2.2.2.2.2.1))==(qbC IntKind.i64 x.2 1==0))))
def quF (_:qc qo5):Bool:=true
def qjB (x:qc qo5):Sh.den qrX:=(qrU x).qQ default
theorem qJm (x:qc qo5) (_:quF x=true):(qrU x).val=some (qjB x):=PO.qbS default (by simp[qrU,PO.sure])
abbrev qgC:List Ty:=[qG,(.int .i64)]
abbrev qjj:Sh:=Sh.ty Ty.bool
def qgs (x:qc qgC):PO (Sh.den qjj) :=
 (.ite (x.2==0)
  (.ret (x.1.2.2.2.1))
  (.ite (x.2==1)
  (.ret (!x.1.2.2.2.1))
  (.ite (x.2==2)
   (.ret (x.1.2.2.2.2.1))
   (.ite (x.2==3)
   (.ret (!x.1.2.2.2.2.1))
   (.ite (x.2==4)
    (.ret (x.1.2.2.1))
    (.ite (x.2==5)
    (.ret (!x.1.2.2.1))
    (.ite (x.2==6)
     (.ret (x.1.2.2.2.2.2.1))
     (.ite (x.2==7)
     (.ret (!x.1.2.2.2.2.2.1))
     (.ite (x.2==8)
      (.ret (x.1.2.2.2.2.1&&!x.1.2.2.2.1))
      (.ite (x.2==9)
      (.ret (!x.1.2.2.2.2.1||x.1.2.2.2.1))
      (.ite (x.2==10)
       (.ret (x.1.2.2.1==x.1.2.2.2.2.2.1))
       (.ite (x.2==11)
       (.ret (!x.1.2.2.1==x.1.2.2.2.2.2.1))
       (.ite (x.2==12)
        (.ret (!x.1.2.2.2.1&&x.1.2.2.1==x.1.2.2.2.2.2.1))
        (.ite (x.2==13)
        (.ret (x.1.2.2.2.1||!x.1.2.2.1==x.1.2.2.2.2.2.1))
        (.ret (false))))))))))))))))
def qmt (_:qc qgC):Bool:=true
def qfa (x:qc qgC):Sh.den qjj:=(qgs x).qQ default
theorem quP (x:qc qgC) (_:qmt x=true):(qgs x).val=some (qfa x):=PO.qbS default (by simp[qgs,PO.sure])
abbrev qgI:List Ty:=[qG,qbd]
abbrev qjz:Sh:=Sh.ty Ty.bool
def qgH (x:qc qgI):PO (Sh.den qjz) :=
 (.ite (x.2.1==24||(x.2.1==25||true))
  (.ret (x.2.1==24||x.2.1==25&&qfa (x.1,x.2.2.2.2.2.2.2.1)))
  .fail)
def qmk (_:qc qgI):Bool:=true
def qea (x:qc qgI):Sh.den qjz:=(qgH x).qQ default
theorem qvj (x:qc qgI) (_:qmk x=true):(qgH x).val=some (qea x):=PO.qrr default (by simp[qgH,PO.qxz])
abbrev qqX:List Ty:=[qG,qbd]
abbrev qte:Sh:=Sh.ty Ty.bool
def qoB (x:qc qqX):PO (Sh.den qte) :=
 (.ite (x.2.1==24||(x.2.1==25||true))
  (.ret (x.2.1==24||x.2.1==25&&qjB (x.1,x.2.2.2.2.2.2.2.1)))
  .fail)
def qv2 (_:qc qqX):Bool:=true
def qe0 (x:qc qqX):Sh.den qte:=(qoB x).qQ default
theorem qKi (x:qc qqX) (_:qv2 x=true):(qoB x).val=some (qe0 x):=PO.qrr default (by simp[qoB,PO.qxz])
def qkr:LoopN where
 M:=[1,2,6,7]
 T:=[3,4,8,9,10,11,12,13,14,15,16]
 D:=[6,7]
 ss:=[.box 0 0,.box 1 0,.ty (.arr 15 (.int .i64)),.ty (.int .i64)]
 hs:=[.ty qG,.ty qG]
 es:=[.exit 0]
 σ:=(Ty.den (.int .i64))×(Sh.den (.ty qG))×(Sh.den (.ty qG))
 x0:=fun x y=>(x.2.2.2,y.1,y.2)
 put:=fun x _ s=>((x.1,x.2.1,x.2.2.1,s.1),(s.2.1,s.2.2))
 fuel:=fun _ _=>20
 turn:=fun x _ s =>
 (.ite (decide (s.1<15))
  (.ite (inRange s.1 15)
  (.ite (inRange s.1 15)
   (.ret (.on (w64 (s.1+1),(List.set s.2.1.1 (Int.toNat s.1) (qbc (List.getD x.2.2.1 (Int.toNat s.1) (Ty.dflt (Ty.int IntKind.i64)))),s.2.1.2),s.2.2)))
   .fail)
  .fail)
  (.ret (.out 0 (s.1,s.2.1,s.2.2))))
def qek:LoopN where
 M:=[1,2,3]
 T:=[4,5,6,7,8,9,10,11,12,13,14,15]
 D:=[3]
 ss:=[.box 0 0,.box 1 0,.ty (.int .i64)]
 hs:=[.ty qG,.ty qG]
 es:=[.exit 0]
 σ:=(Ty.den (.int .i64))×(Sh.den (.ty qG))×(Sh.den (.ty qG))
 x0:=fun x y=>(x.2.2,y.1,y.2)
 put:=fun x _ s=>((x.1,x.2.1,s.1),(s.2.1,s.2.2))
 fuel:=fun _ _=>20
 turn:=fun _ _ s =>
 (.ite (decide (s.1<15))
  (.ite (inRange s.1 15)
  (.ite (inRange s.1 15)
   (.ret (.on (w64 (s.1+1),(List.set s.2.1.1 (Int.toNat s.1) (qq (List.getD s.2.1.1 (Int.toNat s.1) (Ty.dflt (Ty.int IntKind.i64)))),s.2.1.2),s.2.2)))
   .fail)
  .fail)
  (.ret (.out 0 (s.1,s.2.1,s.2.2))))
abbrev qo6:List Ty:=[qG]
abbrev qrC:Sh:=Sh.ty qG
def qun (x:qc qo6):PO (Sh.den qrC) :=
 (.opt (LoopN.res qkr ((),(),x.1,0) (x,[0,0,0,0,0,0,0,0,0,0,0,0,0,0,0],0,false,false,false,false,())) fun p0 =>
  (.ret ((p0.2.2.1.1,qbc p0.2.2.1.2.1,p0.2.2.1.2.2))))
theorem qNs (r:List Int) (t u:qG.den) (hr:r.length=15) (ht:t.1=r):qcF (qkr.turn ((),(),r,0) (t,u)) 20 (0,t,u)=some (0,15,(qgm r,t.2),u):=by
 have key:=qhP (σ:=Int×qG.den×qG.den) (turn:=qkr.turn ((),(),r,0) (t,u)) (fun i=>((i:Int),(qlq r i,t.2),u)) (0,15,(qgm r,t.2),u) (n:=15) (fun i hi=>?_) ?_ 15 0 (by omega) 20 (by omega)
 ·simp only[qyv] at key
  rw[←ht] at key ⊢
  exact key
 ·have h1:decide ((i:Int)<15)=true:=qK (by omega)
  have hi':i<r.length:=by omega
  show(bif decide ((i:Int)<15) then(bif inRange (i:Int) 15 then(bif inRange (i:Int) 15 then some (TL.on (w64 ((i:Int)+1),((qlq r i).set (Int.toNat (i:Int)) (wn (r.getD (Int.toNat (i:Int)) 0):Int),t.2),u)) else none) else none) else _)=_
  rw[h1,inR hi,Int.toNat_natCast,qgY r _ hi',qyD r hi',qt (by omega) (by omega)]
  rfl
 ·show(bif decide (((15:Nat):Int)<15) then _ else _)=_
  rw[qW (by omega),qzI r (by omega)]
  rfl
def qjC (x:qc qo6):Bool:=decide (List.length x.1=15)
def qcr (x:qc qo6):Sh.den qrC:=(qgm x.1,(wn x.2.1:Int),x.2.2)
theorem qHm (x:qc qo6) (h:qjC x=true):(qun x).val=some (qcr x):=by
 have h15:List.length x.1=15:=of_decide_eq_true h
 unfold qun PO.val
 have:LoopN.res qkr ((),(),x.1,0) (x,[0,0,0,0,0,0,0,0,0,0,0,0,0,0,0],0,false,false,false,false,())=some (0,(15:Int),(qgm x.1,x.2),([0,0,0,0,0,0,0,0,0,0,0,0,0,0,0],0,false,false,false,false,())):=qNs x.1 x _ h15 rfl
 rw[this]
 rfl
abbrev qgk:List Ty:=[qG]
abbrev qjn:Sh:=Sh.ty qG
def qmD (x:qc qgk):PO (Sh.den qjn) :=
 (.opt (LoopN.res qek ((),(),0) (x,[0,0,0,0,0,0,0,0,0,0,0,0,0,0,0],0,false,false,false,false,())) fun p0 =>
  (.ret ((p0.2.2.1.1,qq p0.2.2.1.2.1,p0.2.2.1.2.2))))
theorem qF4 (r:List Int) (t u:qG.den) (hr:r.length=15) (ht:t.1=r):qcF (qek.turn ((),(),0) (t,u)) 20 (0,t,u)=some (0,15,(qgm r,t.2),u):=by
 have key:=qhP (σ:=Int×qG.den×qG.den) (turn:=qek.turn ((),(),0) (t,u)) (fun i=>((i:Int),(qlq r i,t.2),u)) (0,15,(qgm r,t.2),u) (n:=15) (fun i hi=>?_) ?_ 15 0 (by omega) 20 (by omega)
 ·simp only[qyv] at key
  rw[←ht] at key ⊢
  exact key
 ·have h1:decide ((i:Int)<15)=true:=qK (by omega)
  have hi':i<r.length:=by omega
  show(bif decide ((i:Int)<15) then(bif inRange (i:Int) 15 then(bif inRange (i:Int) 15 then some (TL.on (w64 ((i:Int)+1),((qlq r i).set (Int.toNat (i:Int)) (wn ((qlq r i).getD (Int.toNat (i:Int)) 0):Int),t.2),u)) else none) else none) else _)=_
  rw[h1,inR hi,Int.toNat_natCast,qLQ r hi',qyD r hi',qt (by omega) (by omega)]
  rfl
 ·show(bif decide (((15:Nat):Int)<15) then _ else _)=_
  rw[qW (by omega),qzI r (by omega)]
  rfl
def qgN (x:qc qgk):Bool:=decide (List.length x.1=15)
def qg (x:qc qgk):Sh.den qjn:=(qgm x.1,(wn x.2.1:Int),x.2.2)
theorem quZ (x:qc qgk) (h:qgN x=true):(qmD x).val=some (qg x):=by
 have h15:List.length x.1=15:=of_decide_eq_true h
 unfold qmD PO.val
 have:LoopN.res qek ((),(),0) (x,[0,0,0,0,0,0,0,0,0,0,0,0,0,0,0],0,false,false,false,false,())=some (0,(15:Int),(qgm x.1,x.2),([0,0,0,0,0,0,0,0,0,0,0,0,0,0,0],0,false,false,false,false,())):=qF4 x.1 x _ h15 rfl
 rw[this]
 rfl
end Go.Av
end
section
namespace Go.Av
open Go
def qet (m f a k:Nat):Nat:=2 ^ a*(2 ^ k*(m / 2 ^ (a+k))+f % 2 ^ k)+m % 2 ^ a
theorem qy2 (m f a k j:Nat):(qet m f a k).testBit j=if j<a then m.testBit j else if j<a+k then f.testBit (j-a) else m.testBit j:=by
 unfold qet
 rw[Nat.testBit_two_pow_mul_add _ (Nat.mod_lt _ (Nat.two_pow_pos a))]
 split
 ·rename_i h
  rw[Nat.testBit_mod_two_pow,decide_eq_true h,Bool.true_and]
 ·rename_i h
  rw[Nat.testBit_two_pow_mul_add _ (Nat.mod_lt _ (Nat.two_pow_pos k))]
  split
  ·rename_i h2
   rw[if_pos (by omega),Nat.testBit_mod_two_pow,decide_eq_true h2,Bool.true_and]
  ·rename_i h2
   rw[if_neg (by omega),Nat.testBit_div_two_pow]
   congr 1
   omega
theorem qQp {m f a k:Nat} (hm:m<4294967296) (h:a+k≤32):qet m f a k<4294967296:=by
 refine Nat.lt_pow_two_of_testBit (n:=32) _ fun j hj=>?_
 rw[qy2,if_neg (by omega),if_neg (by omega)]
 exact Nat.testBit_lt_two_pow (Nat.lt_of_lt_of_le hm (Nat.pow_le_pow_right (n:=2) (by omega) hj))
theorem qy5 (a k j:Nat):((2 ^ k-1)*2 ^ a).testBit j=(decide (a≤j)&&decide (j<a+k)):=by
 rw[Nat.testBit_mul_two_pow,Nat.testBit_two_pow_sub_one]
 by_cases h:a≤j
 ·rw[show decide (j-a<k)=decide (j<a+k) from decide_eq_decide.2 (by omega)]
 ·rw[qW h];rfl
theorem qKJ {a k:Nat} (h:a+k≤32):(2 ^ k-1)*2 ^ a<4294967296:=by
 refine Nat.lt_pow_two_of_testBit (n:=32) _ fun j hj=>?_
 rw[qy5,qW (show ¬j<a+k by omega),Bool.and_false]
theorem qLv {m f a k:Nat} (hm:m<4294967296) (h:a+k≤32):(f*2 ^ a % 4294967296 &&& (2 ^ k-1)*2 ^ a) |||(m &&& (4294967295-(2 ^ k-1)*2 ^ a))=qet m f a k:=by
 refine Nat.eq_of_testBit_eq fun j=>?_
 rw[qy2,Nat.testBit_or,Nat.testBit_and,Nat.testBit_and,qy5,show 4294967295-(2 ^ k-1)*2 ^ a=2 ^ 32-((2 ^ k-1)*2 ^ a+1) by omega,Nat.testBit_two_pow_sub_succ (qKJ h),qy5,show(4294967296:Nat)=2 ^ 32 from rfl,Nat.testBit_mod_two_pow,Nat.testBit_mul_two_pow]
 by_cases h32:j<32
 ·by_cases ha:j<a
  ·simp[ha,h32,show ¬a≤j by omega]
  ·by_cases hk:j<a+k
   ·simp[ha,h32,hk,show a≤j by omega]
   ·simp[ha,h32,hk,show a≤j by omega]
 ·have hz:m.testBit j=false:=Nat.testBit_lt_two_pow (Nat.lt_of_lt_of_le hm (Nat.pow_le_pow_right (n:=2) (by omega) (show 32≤j by omega)))
  have ha:¬j<a:=by omega
  have hk:¬j<a+k:=by omega
  simp[h32,hz,ha,hk]
abbrev qoe:List Ty:=[(.int .i64),(.int .i64),(.int .i64),(.int .i64)]
abbrev qqz:Sh:=Sh.ty (Ty.int IntKind.i64)
def qtO (x:qc qoe):PO (Sh.den qqz) :=
 (.ite (!decide (x.2.2.2<0)&&(!decide (x.2.2.1<0)&&true))
  (.ret (qmJ (qbc (qC IntKind.i64 (w64 (qC IntKind.i64 1 x.2.2.2-1)) x.2.2.1),qoE (x.2.1,x.2.2.1),x.1)))
  .fail)
def qgo (x:qc qoe):Bool:=decide ((0:Int)≤x.2.2.1)&&(decide ((0:Int)≤x.2.2.2)&&(decide ((x.2.2.1:Int)+x.2.2.2≤32)&&decide ((x.2.2.1:Int)<32)))
def qjP (x:qc qoe):Sh.den qqz:=(qet (wn x.1) (wn x.2.1) (Int.toNat x.2.2.1) (Int.toNat x.2.2.2):Int)
theorem qLG (m f:Int) (a k:Nat) (h:a+k≤32) (ha:a<32):(qtO (m,f,(a:Int),(k:Int))).val=some ((qet (wn m) (wn f) a k:Nat):Int):=by
 have h1:decide ((k:Int)<0)=false:=qW (by omega)
 have h2:decide ((a:Int)<0)=false:=qW (by omega)
 have hp:2 ^ k≤2 ^ 32:=qeU (by omega)
 have hk1:qC .i64 1 (k:Int)=((2 ^ k:Nat):Int):=by
  rw[qrh _ _ (by omega),Int.one_mul,show(2:Int) ^ k=((2 ^ k:Nat):Int) by simp]
  exact qrb (by omega)
 have hpos:=Nat.two_pow_pos k
 have hm1:w64 (((2 ^ k:Nat):Int)-1)=((2 ^ k-1:Nat):Int):=by
  generalize 2 ^ k=q at *
  rw[qt (by omega) (by omega)]
  omega
 have hml:=qKJ h
 have hkk:kk (a:Int)=a:=by unfold kk;omega
 show(bif !decide ((k:Int)<0)&&(!decide ((a:Int)<0)&&true) then some (((wn ((wn f*2 ^ kk (a:Int) % 4294967296:Nat):Int) &&& wn ((wn (qC .i64 (w64 (qC .i64 1 (k:Int)-1)) (a:Int)):Nat):Int)) |||(wn m &&& (4294967295-wn ((wn (qC .i64 (w64 (qC .i64 1 (k:Int)-1)) (a:Int)):Nat):Int))):Nat):Int) else none)=_
 rw[h1,h2,hk1,hm1,qIW _ _ (by omega),hkk,Nat.mod_eq_of_lt hml,qgp (Nat.mod_lt _ (by omega)),qgp hml,qLv (qdB m) h]
 rfl
theorem qF6 (x:qc qoe) (h:qgo x=true):(qtO x).val=some (qjP x):=by
 obtain⟨m,f,a,k⟩:=x
 simp only[qgo,Bool.and_eq_true,decide_eq_true_eq] at h
 obtain⟨h1,h2,h3,h4⟩:=h
 obtain⟨a,rfl⟩:=Int.eq_ofNat_of_zero_le h1
 obtain⟨k,rfl⟩:=Int.eq_ofNat_of_zero_le h2
 have h3':(a:Int)+(k:Int)≤32:=h3
 have h4':(a:Int)<32:=h4
 exact qLG m f a k (by omega) (by omega)
abbrev qmQ:List Ty:=[(.int .i64),(.int .i64),(.int .i64)]
abbrev qpp:Sh:=Sh.ty (Ty.int IntKind.i64)
def qmL (x:qc qmQ):PO (Sh.den qpp) :=
 (.ite (x.1==5)
  (.ret (qoE (x.2.1,x.2.2)))
  (.ite (x.1==6)
  (.ret (qkV (x.2.1,x.2.2)))
  (.ite (x.1==7)
   (.ret (qqM (x.2.1,x.2.2)))
   (.ret (qqj (x.2.1,x.2.2))))))
def qsC (_:qc qmQ):Bool:=true
def qmS (x:qc qmQ):Sh.den qpp:=(qmL x).qQ default
theorem qA7 (x:qc qmQ) (_:qsC x=true):(qmL x).val=some (qmS x):=PO.qbS default (by simp[qmL,PO.sure])
abbrev qse:List Ty:=[(.int .i64),(.int .i64),(.int .i64)]
abbrev quf:Sh:=Sh.ty (Ty.int IntKind.i64)
def qsi (x:qc qse):PO (Sh.den quf) :=
 (.ite (x.1==10)
  (.ret (qle (x.2.1,x.2.2)))
  (.ite (x.1==11)
  (.ret (qle (x.2.1,qjf x.2.2)))
  (.ite (x.1==12)
   (.ret (qk5 (x.2.1,x.2.2)))
   (.ite (x.1==13)
   (.ret (qhR (x.2.1,x.2.2)))
   (.ite (x.1==14)
    (.ret (qjr (x.2.1,x.2.2)))
    (.ite (x.1==15)
    (.ret (qje (x.2.1,x.2.2)))
    (.ret (qld (x.2.1,x.2.2)))))))))
def qwV (_:qc qse):Bool:=true
def qsg (x:qc qse):Sh.den quf:=(qsi x).qQ default
theorem qLq (x:qc qse) (_:qwV x=true):(qsi x).val=some (qsg x):=PO.qbS default (by simp[qsi,PO.sure])
abbrev qm2:List Ty:=[qG,(.int .i64),(.int .i64)]
abbrev qpD:Sh:=Sh.ty qG
def qpe (x:qc qm2):PO (Sh.den qpD) :=
 (.ret ((x.1.1,x.1.2.1,qoG (qje (x.2.1,x.2.2),31)==1,qje (x.2.1,x.2.2)==0,decide (x.2.1≥x.2.2),qoG (qle (qhR (x.2.1,x.2.2),qhR (x.2.1,qje (x.2.1,x.2.2))),31)==1,x.1.2.2.2.2.2.2)))
def qsn (_:qc qm2):Bool:=true
def qg3 (x:qc qm2):Sh.den qpD:=(qpe x).qQ default
theorem qCA (x:qc qm2) (_:qsn x=true):(qpe x).val=some (qg3 x):=PO.qbS default (by simp[qpe,PO.sure])
abbrev qgd:List Ty:=[(.int .i64)]
abbrev qiR:Sh:=Sh.ty (Ty.int IntKind.i64)
def qfY (x:qc qgd):PO (Sh.den qiR) :=
 (.ite (decide (x≥2147483648))
  (.ret (w64 (x-4294967296)))
  (.ret (x)))
def ql5 (_:qc qgd):Bool:=true
def qbo (x:qc qgd):Sh.den qiR:=(qfY x).qQ default
theorem quE (x:qc qgd) (_:ql5 x=true):(qfY x).val=some (qbo x):=PO.qbS default (by simp[qfY,PO.sure])
def qe2:LoopN where
 M:=[0,1,2,3,9]
 T:=[10,11,12,13,14,15,16,17,18,19,20,21,22,23,24,25,26,27,28]
 D:=[1,2,3,9]
 ss:=[.ty (.int .i64),.ty (.int .i64),.ty (.int .i64),.ty (.int .i64),.ty (.int .i64)]
 hs:=[]
 es:=[.exit 0]
 σ:=(Ty.den (.int .i64))×(Ty.den (.int .i64))
 x0:=fun x _=>(x.1,x.2.2.2.2)
 put:=fun x _ s=>((s.1,x.2.1,x.2.2.1,x.2.2.2.1,s.2),())
 fuel:=fun _ _=>40
 turn:=fun x _ s =>
 (.ite (decide (s.2<x.2.2.2.1))
  (.ite (q8 (s.1,w64 (x.2.2.1+s.2)) != q8 (x.2.1,s.2)||true)
  (.ret (.on (bif q8 (s.1,w64 (x.2.2.1+s.2)) != q8 (x.2.1,s.2) then qep (s.1,w64 (x.2.2.1+s.2)) else s.1,w64 (s.2+1))))
  .fail)
  (.ret (.out 0 (s.1,s.2))))
abbrev qhX:List Ty:=[(.int .i64),(.int .i64),(.int .i64),(.int .i64)]
abbrev qkO:Sh:=Sh.ty (Ty.int IntKind.i64)
def qoh (x:qc qhX):PO (Sh.den qkO) :=
 (.opt (LoopN.res qe2 (x.1,x.2.1,x.2.2.1,x.2.2.2,0) ()) fun p0 =>
  (.ret (p0.2.1)))
theorem qMG (m f a:Nat):qet m f a 0=m:=by
 unfold qet
 rw[Nat.pow_zero,Nat.one_mul,Nat.mod_one,Nat.add_zero,Nat.add_zero]
 exact Nat.div_add_mod m (2 ^ a)
theorem qQO (m f a k:Nat):bt (qet m f a k) (a+k)=bt m (a+k):=by
 rw[qhc,qhc,qy2,if_neg (by omega),if_neg (by omega)]
theorem qMT (m f a k:Nat):qet m f a (k+1)=bif bt (qet m f a k) (a+k) != bt f k then flip (qet m f a k) (a+k) else qet m f a k:=by
 have e1:m / 2 ^ (a+k)=2*(m / 2 ^ (a+(k+1)))+bt m (a+k):=qMe m (a+k)
 have e2:f % 2 ^ (k+1)=f % 2 ^ k+2 ^ k*bt f k:=by unfold bt;rw[Nat.pow_succ,Nat.mod_mul]
 have hb:=qwh m (a+k)
 have hf:=qwh f k
 have key:qet m f a (k+1)+2 ^ (a+k)*bt m (a+k)=qet m f a k+2 ^ (a+k)*bt f k:=by
  have e3:2 ^ (a+k)=2 ^ a*2 ^ k:=Nat.pow_add 2 a k
  unfold qet
  rw[e1,e2]
  generalize m / 2 ^ (a+(k+1))=q
  rw[Nat.pow_succ,e3]
  grind
 have hbt:=qQO m f a k
 have hle:bt (qet m f a k) (a+k)=1→2 ^ (a+k)≤qet m f a k:=qEC
 unfold flip
 rw[hbt] at hle ⊢
 have h1:bt m (a+k)=0∨bt m (a+k)=1:=by omega
 have h2:bt f k=0∨bt f k=1:=by omega
 rcases h1 with h1 |h1<;>rcases h2 with h2 |h2
 ·rw[h1,h2] at key ⊢
  simpa using key
 ·rw[h1,h2] at key ⊢
  simpa using key
 ·have:=hle h1
  rw[h1,h2] at key ⊢
  simp at key ⊢
  omega
 ·rw[h1,h2] at key ⊢
  simpa using key
def qdW (x:qc qhX):Bool:=(decide ((0:Int)≤x.1)&&decide ((x.1:Int)<4294967296))&&(decide ((0:Int)≤x.2.2.1)&&(decide ((0:Int)≤x.2.2.2)&&decide ((x.2.2.1:Int)+x.2.2.2≤32)))
def qf7 (x:qc qhX):Sh.den qkO:=(qet (wn x.1) (wn x.2.1) (Int.toNat x.2.2.1) (Int.toNat x.2.2.2):Int)
theorem qPG (m:Nat) (f:Int) (a k:Nat) (hm:m<4294967296) (h:a+k≤32):qcF (qe2.turn ((m:Int),f,(a:Int),(k:Int),0) ()) 40 ((m:Int),0)=some (0,((qet m (wn f) a k:Nat):Int),(k:Int)):=by
 have key:=qhP (σ:=Int×Int) (turn:=qe2.turn ((m:Int),f,(a:Int),(k:Int),0) ()) (fun i=>(((qet m (wn f) a i:Nat):Int),(i:Int))) (0,((qet m (wn f) a k:Nat):Int),(k:Int)) (n:=k) (fun i hi=>?_) ?_ k 0 (by omega) 40 (by omega)
 ·simp only[qMG] at key
  exact key
 ·have h1:decide ((i:Int)<(k:Int))=true:=qK (by omega)
  have hl:=qQp (f:=wn f) hm (show a+i≤32 by omega)
  have e1:w64 ((a:Int)+(i:Int))=((a+i:Nat):Int):=by rw[qt (by omega) (by omega)];omega
  have k1:kk ((a+i:Nat):Int)=a+i:=by unfold kk;omega
  have k2:kk (i:Int)=i:=by unfold kk;omega
  show(bif decide ((i:Int)<(k:Int)) then(bif ((((bt (wn ((qet m (wn f) a i:Nat):Int)) (kk (w64 ((a:Int)+(i:Int)))):Nat):Int)) != ((bt (wn f) (kk (i:Int)):Nat):Int))||true then some (TL.on ((bif (((bt (wn ((qet m (wn f) a i:Nat):Int)) (kk (w64 ((a:Int)+(i:Int)))):Nat):Int)) != ((bt (wn f) (kk (i:Int)):Nat):Int) then((flip (wn ((qet m (wn f) a i:Nat):Int)) (kk (w64 ((a:Int)+(i:Int)))):Nat):Int) else((qet m (wn f) a i:Nat):Int)),w64 ((i:Int)+1))) else none) else _)=_
  rw[h1,e1,k1,k2,qgp hl,Bool.or_true,qt (n:=(i:Int)+1) (by omega) (by omega),qMT]
  have e:((((bt (qet m (wn f) a i) (a+i):Nat):Int)) != ((bt (wn f) i:Nat):Int))=(bt (qet m (wn f) a i) (a+i) != bt (wn f) i):=by
   rw[Bool.eq_iff_iff]
   simp only[bne_iff_ne,ne_eq]
   omega
  rw[e]
  cases bt (qet m (wn f) a i) (a+i) != bt (wn f) i<;>rfl
 ·show(bif decide ((k:Int)<(k:Int)) then _ else _)=_
  rw[qW (by omega)]
  rfl
theorem qwQ (x:qc qhX) (h:qdW x=true):(qoh x).val=some (qf7 x):=by
 obtain⟨m,f,a,k⟩:=x
 simp only[qdW,Bool.and_eq_true,decide_eq_true_eq] at h
 obtain⟨⟨h0,hm⟩,h1,h2,h3⟩:=h
 obtain⟨m,rfl⟩:=Int.eq_ofNat_of_zero_le h0
 obtain⟨a,rfl⟩:=Int.eq_ofNat_of_zero_le h1
 obtain⟨k,rfl⟩:=Int.eq_ofNat_of_zero_le h2
 have hm0:(m:Int)<4294967296:=hm
 have hm':m<4294967296:=by omega
 have h3':(a:Int)+(k:Int)≤32:=h3
 have hr:LoopN.res qe2 ((m:Int),f,(a:Int),(k:Int),0) ()=some (0,((qet m (wn f) a k:Nat):Int),(k:Int)):=qPG m f a k hm' (by omega)
 have hv:qf7 ((m:Int),f,(a:Int),(k:Int))=((qet m (wn f) a k:Nat):Int):=by
  show((qet (wn (m:Int)) (wn f) (Int.toNat (a:Int)) (Int.toNat (k:Int)):Nat):Int)=_
  rw[qgp hm',Int.toNat_natCast,Int.toNat_natCast]
 unfold qoh PO.val
 rw[hr,hv]
 rfl
end Go.Av
end
section
namespace Go.Av
open Go
theorem qRc (A:Bool) (x:Option Int):(bif A then some 2 else x).getD 0=0↔A=false∧x.getD 0=0:=by cases A<;>simp
theorem qQ2 (A:Bool) (x:Option Int):(bif A then some 6 else x).getD 0=0↔A=false∧x.getD 0=0:=by cases A<;>simp
set_option maxHeartbeats 1000000 in
theorem qjM {op rd rn rm ra imm cond:Int} {w:Bool} (h:qk (op,rd,rn,rm,ra,imm,cond,w,())=0) :
  (1≤op∧op≤25)∧(0≤rd∧rd≤12)∧(0≤rn∧rn≤12)∧(0≤rm∧rm≤12)∧(op=17→0≤ra∧ra≤12∧ra≠rd)∧(op≠24→op≠25→0≤imm∧imm≤65535∧w=false∧cond=0)∧(5≤op→op≤23→imm≤31)∧(op=18→1≤ra∧ra≤32-imm)∧(6≤op→op≤8→1≤imm):=by
 have hw:=qt4 imm
 rcases qgO op with rfl |rfl |rfl |rfl |rfl |rfl |rfl |rfl |rfl |rfl |rfl |rfl |rfl |rfl |rfl |rfl |rfl |rfl |rfl |rfl |rfl |rfl |rfl |rfl |rfl |hop
 case inr.inr.inr.inr.inr.inr.inr.inr.inr.inr.inr.inr.inr.inr.inr.inr.inr.inr.inr.inr.inr.inr.inr.inr.inr =>
  exfalso
  have e:=fun k hk=>qpQ (n:=op) (k:=k) hop hk
  simp[qk,qcB,qbq,qcM,PO.qQ,PO.val,e] at h
 all_goals
  simp[qk,qcB,qbq,qcM,qc5,qg5,qcI,qf3,PO.qQ,PO.val,qhC,qhB,qg7,qi0] at h ⊢
  simp only[qRc,qQ2,Bool.or_eq_false_iff,Bool.not_eq_false',decide_eq_true_eq,bne_eq_false_iff_eq,beq_iff_eq] at h
  grind
theorem qR1:IntKind.i64.wrap (-1048576)=-1048576:=rfl
theorem qSm:IntKind.i64.wrap 1048574=1048574:=rfl
end Go.Av
end
section
namespace Go.Av
open Go
theorem qrd:Ty.dflt (.int .i64)=(0:Int):=rfl
theorem qpE {n:Int} (h:0≤n∧n≤12):inRange n 15=true:=by
 unfold inRange
 rw[qK h.1,qK (show n<((15:Nat):Int) by omega)]
 rfl
def vOf (op imm ra d n m ld:Int):Int :=
 bif op==3 then imm
 else bif op==4 then(qet (wn d) (wn imm) 16 16:Nat)
 else bif op==5 then(wn m*2 ^ kk imm % 4294967296:Nat)
 else bif op==6 then(wn m / 2 ^ kk imm:Nat)
 else bif op==7 then(wn (sw (wn m) / (2 ^ kk imm:Nat)):Nat)
 else bif op==8 then(wn m / 2 ^ kk imm+wn m % 2 ^ kk imm*2 ^ (32-kk imm):Nat)
 else bif op==9 then(4294967295-wn m:Nat)
 else bif op==10 then(wn n &&& wn m:Nat)
 else bif op==11 then(wn n &&& wn ((4294967295-wn m:Nat):Int):Nat)
 else bif op==12 then(wn n |||wn m:Nat)
 else bif op==13 then(wn n ^^^ wn m:Nat)
 else bif op==14 then(wn (n+m):Nat)
 else bif op==15 then(wn (n-m):Nat)
 else bif op==16||op==17 then(wn n*wn m % 4294967296:Nat)
 else bif op==18 then(qet (wn d) (wn n) imm.toNat ra.toNat:Nat)
 else bif op==19 then(wn ld:Nat)
 else bif op==21 then(wn ld % 256:Nat)
 else d
def qxO (op:Int):Bool:=decide (3≤op)&&decide (op≤19)||op==21
def rg (l:List Int) (k:Int):Int:=l.getD (Int.toNat k) 0
def qsd (r:List Int) (op rd rn rm ra imm ld:Int):List Int :=
 bif op==17 then(r.set rd.toNat (wn (rg r rn)*wn (rg r rm) % 4294967296:Nat)).set ra.toNat (wn (rg r rn)*wn (rg r rm) / 4294967296:Nat)
 else bif qxO op then r.set rd.toNat (vOf op imm ra (rg r rd) (rg r rn) (rg r rm) ld)
 else r
def qid (s:qG.den) (op rd rn rm ra imm ld:Int):qG.den :=
 bif op==23 then qg3 (s,rg s.1 rn,rg s.1 rm) else(qsd s.1 op rd rn rm ra imm ld,s.2)
theorem qQh (n:Int):(wn (qbC .i64 n 255):Int)=((wn n % 256:Nat):Int):=by
 have h:qbC .i64 n 255=n % 256:=qjW n 8 (by omega)
 rw[h]
 unfold wn
 omega
abbrev qo2:List Ty:=[qG,qbd,(.int .i64)]
abbrev qrV:Sh:=Sh.ty qG
def qm8 (x:qc qo2):PO (Sh.den qrV) :=
 (.ite (inRange x.2.1.2.2.1 15&&inRange x.2.1.2.2.2.1 15)
  (.ite (x.2.1.1==3)
  (.ite (inRange x.2.1.2.1 15)
   (.ret ((List.set x.1.1 (Int.toNat x.2.1.2.1) x.2.1.2.2.2.2.2.1,x.1.2)))
   .fail)
  (.ite (x.2.1.1==4)
   (.ite (inRange x.2.1.2.1 15)
   (.ite (qgo (List.getD x.1.1 (Int.toNat x.2.1.2.1) (Ty.dflt (Ty.int IntKind.i64)),x.2.1.2.2.2.2.2.1,16,16))
    (.ite (inRange x.2.1.2.1 15)
    (.ret ((List.set x.1.1 (Int.toNat x.2.1.2.1) (qjP (List.getD x.1.1 (Int.toNat x.2.1.2.1) (Ty.dflt (Ty.int IntKind.i64)),x.2.1.2.2.2.2.2.1,16,16)),x.1.2)))
    .fail)
    .fail)
   .fail)
   (.ite (bif x.2.1.1==5 then x.2.1.1==5 else bif x.2.1.1==6 then x.2.1.1==6 else bif x.2.1.1==7 then x.2.1.1==7 else x.2.1.1==8)
   (.ite (inRange x.2.1.2.1 15)
    (.ret ((List.set x.1.1 (Int.toNat x.2.1.2.1) (qmS (x.2.1.1,List.getD x.1.1 (Int.toNat x.2.1.2.2.2.1) (Ty.dflt (Ty.int IntKind.i64)),x.2.1.2.2.2.2.2.1)),x.1.2)))
    .fail)
   (.ite (x.2.1.1==9)
    (.ite (inRange x.2.1.2.1 15)
    (.ret ((List.set x.1.1 (Int.toNat x.2.1.2.1) (qjf (List.getD x.1.1 (Int.toNat x.2.1.2.2.2.1) (Ty.dflt (Ty.int IntKind.i64)))),x.1.2)))
    .fail)
    (.ite (bif x.2.1.1==10 then x.2.1.1==10 else bif x.2.1.1==11 then x.2.1.1==11 else bif x.2.1.1==12 then x.2.1.1==12 else bif x.2.1.1==13 then x.2.1.1==13 else bif x.2.1.1==14 then x.2.1.1==14 else bif x.2.1.1==15 then x.2.1.1==15 else x.2.1.1==16)
    (.ite (inRange x.2.1.2.1 15)
     (.ret ((List.set x.1.1 (Int.toNat x.2.1.2.1) (qsg (x.2.1.1,List.getD x.1.1 (Int.toNat x.2.1.2.2.1) (Ty.dflt (Ty.int IntKind.i64)),List.getD x.1.1 (Int.toNat x.2.1.2.2.2.1) (Ty.dflt (Ty.int IntKind.i64)))),x.1.2)))
     .fail)
    (.ite (x.2.1.1==17)
     (.ite (inRange x.2.1.2.1 15)
     (.ite (inRange x.2.1.2.2.2.2.1 15)
      (.ret ((List.set (List.set x.1.1 (Int.toNat x.2.1.2.1) (qld (List.getD x.1.1 (Int.toNat x.2.1.2.2.1) (Ty.dflt (Ty.int IntKind.i64)),List.getD x.1.1 (Int.toNat x.2.1.2.2.2.1) (Ty.dflt (Ty.int IntKind.i64))))) (Int.toNat x.2.1.2.2.2.2.1) (qm6 (List.getD x.1.1 (Int.toNat x.2.1.2.2.1) (Ty.dflt (Ty.int IntKind.i64)),List.getD x.1.1 (Int.toNat x.2.1.2.2.2.1) (Ty.dflt (Ty.int IntKind.i64)))),x.1.2)))
      .fail)
     .fail)
     (.ite (x.2.1.1==18)
     (.ite (inRange x.2.1.2.1 15)
      (.ite (qgo (List.getD x.1.1 (Int.toNat x.2.1.2.1) (Ty.dflt (Ty.int IntKind.i64)),List.getD x.1.1 (Int.toNat x.2.1.2.2.1) (Ty.dflt (Ty.int IntKind.i64)),x.2.1.2.2.2.2.2.1,x.2.1.2.2.2.2.1))
      (.ite (inRange x.2.1.2.1 15)
       (.ret ((List.set x.1.1 (Int.toNat x.2.1.2.1) (qjP (List.getD x.1.1 (Int.toNat x.2.1.2.1) (Ty.dflt (Ty.int IntKind.i64)),List.getD x.1.1 (Int.toNat x.2.1.2.2.1) (Ty.dflt (Ty.int IntKind.i64)),x.2.1.2.2.2.2.2.1,x.2.1.2.2.2.2.1)),x.1.2)))
       .fail)
      .fail)
      .fail)
     (.ite (x.2.1.1==21)
      (.ite (inRange x.2.1.2.1 15)
      (.ret ((List.set x.1.1 (Int.toNat x.2.1.2.1) (qbc (qbC IntKind.i64 x.2.2 255)),x.1.2)))
      .fail)
      (.ite (x.2.1.1==19)
      (.ite (inRange x.2.1.2.1 15)
       (.ret ((List.set x.1.1 (Int.toNat x.2.1.2.1) (qbc x.2.2),x.1.2)))
       .fail)
      (.ite (x.2.1.1==23)
       (.ret (qg3 (x.1,List.getD x.1.1 (Int.toNat x.2.1.2.2.1) (Ty.dflt (Ty.int IntKind.i64)),List.getD x.1.1 (Int.toNat x.2.1.2.2.2.1) (Ty.dflt (Ty.int IntKind.i64)))))
       (.ret (x.1))))))))))))
  .fail)
set_option maxHeartbeats 1000000 in
theorem qL6 (s:qG.den) (op rd rn rm ra imm cond ld:Int) (w:Bool) (h:qk (op,rd,rn,rm,ra,imm,cond,w,())=0):(qm8 (s,(op,rd,rn,rm,ra,imm,cond,w,()),ld)).val=some (qid s op rd rn rm ra imm ld):=by
 obtain⟨hop,hrd,hrn,hrm,h17,himm,h31,h18,_⟩:=qjM h
 have i1:=qpE hrd
 have i2:=qpE hrn
 have i3:=qpE hrm
 have hb:=qQh ld
 rcases qgO op with rfl |rfl |rfl |rfl |rfl |rfl |rfl |rfl |rfl |rfl |rfl |rfl |rfl |rfl |rfl |rfl |rfl |rfl |rfl |rfl |rfl |rfl |rfl |rfl |rfl |hx
 case inr.inr.inr.inr.inr.inr.inr.inr.inr.inr.inr.inr.inr.inr.inr.inr.inr.inr.inr.inr.inr.inr.inr.inr.inr=>omega
 case inr.inr.inr.inr.inr.inr.inr.inr.inr.inr.inr.inr.inr.inr.inr.inr.inl =>
  have i4:=qpE ⟨(h17 rfl).1,(h17 rfl).2.1⟩
  simp[qm8,PO.val,i1,i2,i3,i4,qid,qsd,rg,qld,qm6,qrd]
 case inr.inr.inr.inr.inr.inr.inr.inr.inr.inr.inr.inr.inr.inr.inr.inr.inr.inl =>
  obtain⟨a1,a2,_⟩:=himm (by omega) (by omega)
  obtain⟨a3,a4⟩:=h18 rfl
  have a5:=h31 (by omega) (by omega)
  have g:∀m f:Int,qgo (m,f,imm,ra)=true:=fun m f=>by
   simp only[qgo,Bool.and_eq_true,decide_eq_true_eq]
   exact⟨a1,by show(0:Int)≤ra;omega,by show imm+ra≤32;omega,by show imm<32;omega⟩
  simp[qm8,PO.val,i1,i2,i3,g,qid,qsd,qxO,vOf,rg,qjP,qrd]
 all_goals
  first
  |(have g:∀m:Int,qgo (m,imm,16,16)=true:=fun _=>rfl
    simp[qm8,PO.val,i1,i2,i3,g,qid,qsd,qxO,vOf,rg,qjP,qmS,qmL,qsg,qsi,PO.qQ,qoE,qkV,qqM,qqj,qjf,qle,qk5,qhR,qjr,qje,qld,qbc,hb,qrd];done)
def qo1 (x:qc qo2):Bool:=qk x.2.1==0
def qm5 (x:qc qo2):Sh.den qrV:=qid x.1 x.2.1.1 x.2.1.2.1 x.2.1.2.2.1 x.2.1.2.2.2.1 x.2.1.2.2.2.2.1 x.2.1.2.2.2.2.2.1 x.2.2
theorem qI0 (x:qc qo2) (h:qo1 x=true):(qm8 x).val=some (qm5 x):=by
 obtain⟨s,⟨op,rd,rn,rm,ra,imm,cond,w,u⟩,ld⟩:=x
 exact qL6 s op rd rn rm ra imm cond ld w (by simpa [qo1] using h)
abbrev qnC:List Ty:=[qG,qbd]
abbrev qqx:Sh:=Sh.tup (Sh.pair (Sh.ty qA5) (Sh.pair (Sh.ty Ty.bool) (Sh.ty Ty.unit)))
def qnM (x:qc qnC):PO (Sh.den qqx) :=
 (.ite (qk x.2 != 0)
  (.ret (((0,0,0,false,()),false,())))
  (.ite (qjC x.1)
  (.ite (inRange x.2.2.2.1 15)
   (.ite (x.2.1==19)
   (.ret (((List.getD (qcr x.1).1 (Int.toNat x.2.2.2.1) (Ty.dflt (Ty.int IntKind.i64)),4,0,false,()),true,())))
   (.ite (x.2.1==21)
    (.ret (((List.getD (qcr x.1).1 (Int.toNat x.2.2.2.1) (Ty.dflt (Ty.int IntKind.i64)),1,0,false,()),true,())))
    (.ite (x.2.1==20)
    (.ite (inRange x.2.2.1 15)
     (.ret (((List.getD (qcr x.1).1 (Int.toNat x.2.2.2.1) (Ty.dflt (Ty.int IntKind.i64)),4,List.getD (qcr x.1).1 (Int.toNat x.2.2.1) (Ty.dflt (Ty.int IntKind.i64)),true,()),true,())))
     .fail)
    (.ite (x.2.1==22)
     (.ite (inRange x.2.2.1 15)
     (.ret (((List.getD (qcr x.1).1 (Int.toNat x.2.2.2.1) (Ty.dflt (Ty.int IntKind.i64)),1,qbC IntKind.i64 (List.getD (qcr x.1).1 (Int.toNat x.2.2.1) (Ty.dflt (Ty.int IntKind.i64))) 255,true,()),true,())))
     .fail)
     (.ret (((0,0,0,false,()),false,())))))))
   .fail)
  .fail))
theorem qxw (l:List Int) (k:Nat):(qgm l).getD k 0=(wn (l.getD k 0):Int):=by
 unfold qgm
 rw[List.getD_eq_getElem?_getD,List.getD_eq_getElem?_getD,List.getElem?_map]
 cases l[k]?<;>rfl
def qf1 (bad:Bool) (op a d:Int):(qA5.den×Bool×Unit) :=
 bif bad then((0,0,0,false,()),false,())
 else bif op==19 then((wn a,4,0,false,()),true,())
 else bif op==20 then((wn a,4,wn d,true,()),true,())
 else bif op==21 then((wn a,1,0,false,()),true,())
 else bif op==22 then((wn a,1,(wn d % 256:Nat),true,()),true,())
 else((0,0,0,false,()),false,())
theorem qMY (m:Nat):qbC .i64 (m:Int) 255=((m % 256:Nat):Int):=by
 have h:qbC .i64 (m:Int) 255=(m:Int) % 256:=qjW m 8 (by omega)
 rw[h]
 omega
def qfz (x:qc qnC):Bool:=decide (List.length x.1.1=15)
def qf (x:qc qnC):Sh.den qqx:=qf1 (qk x.2 != 0) x.2.1 (rg x.1.1 x.2.2.2.1) (rg x.1.1 x.2.2.1)
theorem qLo (s:qG.den) (op rd rn rm ra imm cond:Int) (w:Bool) (hs:List.length s.1=15):(qnM (s,(op,rd,rn,rm,ra,imm,cond,w,()))).val=some (qf1 (qk (op,rd,rn,rm,ra,imm,cond,w,()) != 0) op (rg s.1 rn) (rg s.1 rd)):=by
 cases hc:(qk (op,rd,rn,rm,ra,imm,cond,w,()) != (0:Int))
 ·have h:qk (op,rd,rn,rm,ra,imm,cond,w,())=0:=by simpa using hc
  obtain⟨hop,hrd,hrn,_⟩:=qjM h
  have i1:=qpE hrd
  have i2:=qpE hrn
  have g:qjC s=true:=qK hs
  have e1:∀k:Int,List.getD (qcr s).1 (Int.toNat k) 0=(wn (rg s.1 k):Int):=fun k=>qxw s.1 _
  simp only[qnM,PO.val,hc,i1,i2,g,qrd]
  rw[e1,e1,qMY]
  unfold qf1
  by_cases h19:op=19
  ·subst h19;rfl
  ·by_cases h20:op=20
   ·subst h20;rfl
   ·by_cases h21:op=21
    ·subst h21;rfl
    ·by_cases h22:op=22
     ·subst h22;rfl
     ·have b19:(op==19)=false:=beq_eq_false_iff_ne.2 h19
      have b20:(op==20)=false:=beq_eq_false_iff_ne.2 h20
      have b21:(op==21)=false:=beq_eq_false_iff_ne.2 h21
      have b22:(op==22)=false:=beq_eq_false_iff_ne.2 h22
      simp[b19,b20,b21,b22]
 ·simp[qnM,PO.val,hc,qf1]
theorem qE7 (x:qc qnC) (h:qfz x=true):(qnM x).val=some (qf x):=by
 obtain⟨s,op,rd,rn,rm,ra,imm,cond,w,u⟩:=x
 exact qLo s op rd rn rm ra imm cond w (of_decide_eq_true h)
abbrev qgE:List Ty:=[qbd,(.int .i64),(.int .i64),(.int .i64),(.int .i64)]
abbrev qjm:Sh:=Sh.ty (Ty.int IntKind.i64)
def qmy (x:qc qgE):PO (Sh.den qjm) :=
 (.ite (x.1.1==3)
  (.ret (x.1.2.2.2.2.2.1))
  (.ite (x.1.1==4)
  (.ret (w64 (Int.tmod x.2.1 65536+w64 (65536*x.1.2.2.2.2.2.1))))
  (.ite (x.1.1==5)
   (.ret (qkR (x.2.2.2.1,x.1.2.2.2.2.2.1)))
   (.ite (x.1.1==6)
   (.ret (qk1 (x.2.2.2.1,x.1.2.2.2.2.2.1)))
   (.ite (x.1.1==7)
    (.ret (qkC (x.2.2.2.1,x.1.2.2.2.2.2.1)))
    (.ite (x.1.1==8)
    (.ret (qli (x.2.2.2.1,x.1.2.2.2.2.2.1)))
    (.ite (x.1.1==9)
     (.ret (qh6 x.2.2.2.1))
     (.ite (x.1.1==10)
     (.ret (qij (x.2.2.1,x.2.2.2.1)))
     (.ite (x.1.1==11)
      (.ret (qij (x.2.2.1,qh6 x.2.2.2.1)))
      (.ite (x.1.1==12)
      (.ret (qlE (x.2.2.1,x.2.2.2.1)))
      (.ite (x.1.1==13)
       (.ret (qkH (x.2.2.1,x.2.2.2.1)))
       (.ite (x.1.1==14)
       (.ret (qic (x.2.2.1,x.2.2.2.1)))
       (.ite (x.1.1==15)
        (.ret (qdp (x.2.2.1,x.2.2.2.1)))
        (.ite (bif x.1.1==16 then x.1.1==16 else x.1.1==17)
        (.ret (qh0 (x.2.2.1,x.2.2.2.1)))
        (.ite (x.1.1==18)
         (.ite (qdW (x.2.1,x.2.2.1,x.1.2.2.2.2.2.1,x.1.2.2.2.2.1))
         (.ret (qf7 (x.2.1,x.2.2.1,x.1.2.2.2.2.2.1,x.1.2.2.2.2.1)))
         .fail)
         (.ite (x.1.1==19)
         (.ret (qq x.2.2.2.2))
         (.ite (x.1.1==21)
          (.ret (Int.tmod (qq x.2.2.2.2) 256))
          (.ret (x.2.1)))))))))))))))))))
set_option maxHeartbeats 1000000 in
theorem qMB (op rd rn rm ra imm cond:Int) (w:Bool) (d n m ld:Int) (hd:0≤d∧d<4294967296) (h:qk (op,rd,rn,rm,ra,imm,cond,w,())=0):(qmy ((op,rd,rn,rm,ra,imm,cond,w,()),d,n,m,ld)).val=some (vOf op imm ra d n m ld):=by
 obtain⟨hop,hrd,hrn,hrm,h17,himm,h31,h18,_⟩:=qjM h
 rcases qgO op with rfl |rfl |rfl |rfl |rfl |rfl |rfl |rfl |rfl |rfl |rfl |rfl |rfl |rfl |rfl |rfl |rfl |rfl |rfl |rfl |rfl |rfl |rfl |rfl |rfl |hx
 case inr.inr.inr.inr.inr.inr.inr.inr.inr.inr.inr.inr.inr.inr.inr.inr.inr.inr.inr.inr.inr.inr.inr.inr.inr=>omega
 case inr.inr.inr.inl =>
  obtain⟨a1,a2,_⟩:=himm (by omega) (by omega)
  show some (w64 (Int.tmod d 65536+w64 (65536*imm)))=some ((qet (wn d) (wn imm) 16 16:Nat):Int)
  rw[qmv _ _ hd.1,qt (n:=65536*imm) (by omega) (by omega),qt (by omega) (by omega)]
  have e:qet (wn d) (wn imm) 16 16=wn imm % 65536*65536+wn d % 65536:=by
   have:=qdB d
   unfold qet
   omega
  rw[e]
  have e1:(wn imm:Int)=imm:=by rw[qlN,Int.emod_eq_of_lt (by omega) (by omega)]
  have e2:(wn d:Int)=d:=by rw[qlN,Int.emod_eq_of_lt (by omega) (by omega)]
  exact congrArg some (by omega)
 case inr.inr.inr.inr.inr.inr.inr.inr.inr.inr.inr.inr.inr.inr.inr.inr.inr.inl =>
  obtain⟨a1,a2,_⟩:=himm (by omega) (by omega)
  obtain⟨a3,a4⟩:=h18 rfl
  have g:qdW (d,n,imm,ra)=true:=by
   simp only[qdW,Bool.and_eq_true,decide_eq_true_eq]
   exact⟨⟨hd.1,hd.2⟩,a1,by show(0:Int)≤ra;omega,by show imm+ra≤32;omega⟩
  show(bif qdW (d,n,imm,ra) then some (qf7 (d,n,imm,ra)) else none)=_
  rw[g]
  rfl
 case inr.inr.inr.inr.inr.inr.inr.inr.inr.inr.inr.inr.inr.inr.inr.inr.inr.inr.inr.inr.inl =>
  show some (Int.tmod ((wn ld:Nat):Int) 256)=some ((wn ld % 256:Nat):Int)
  rw[qmv _ _ (by omega)]
  exact congrArg some (by omega)
 all_goals rfl
def qdt (x:qc qgE):Bool:=(decide ((0:Int)≤x.2.1)&&decide ((x.2.1:Int)<4294967296))&&qk x.1==0
def qdo (x:qc qgE):Sh.den qjm:=vOf x.1.1 x.1.2.2.2.2.2.1 x.1.2.2.2.2.1 x.2.1 x.2.2.1 x.2.2.2.1 x.2.2.2.2
theorem qvf (x:qc qgE) (h:qdt x=true):(qmy x).val=some (qdo x):=by
 obtain⟨⟨op,rd,rn,rm,ra,imm,cond,w,u⟩,d,n,m,ld⟩:=x
 simp only[qdt,Bool.and_eq_true,decide_eq_true_eq,beq_iff_eq] at h
 exact qMB op rd rn rm ra imm cond w d n m ld h.1 h.2
abbrev qf2:List Ty:=[qG,qbd]
abbrev qiI:Sh:=Sh.tup (Sh.pair (Sh.ty qA5) (Sh.pair (Sh.ty Ty.bool) (Sh.ty Ty.unit)))
def qf8 (x:qc qf2):PO (Sh.den qiI) :=
 (.ite (qbz x.2)
  (.ite (qo x.2 != 0||!(x.2.1==19||x.2.1==21)&&!(x.2.1==20||x.2.1==22))
  (.ret (((0,0,0,false,()),false,())))
  (.ite (inRange x.2.2.2.1 15)
   (.ite (x.2.1==20||x.2.1==22)
   (.ite (inRange x.2.2.1 15)
    (.ite (x.2.1==21||x.2.1==22)
    (.ret (((qq (List.getD x.1.1 (Int.toNat x.2.2.2.1) (Ty.dflt (Ty.int IntKind.i64))),1,Int.tmod (qq (List.getD x.1.1 (Int.toNat x.2.2.1) (Ty.dflt (Ty.int IntKind.i64)))) 256,x.2.1==20||x.2.1==22,()),true,())))
    (.ret (((qq (List.getD x.1.1 (Int.toNat x.2.2.2.1) (Ty.dflt (Ty.int IntKind.i64))),4,qq (List.getD x.1.1 (Int.toNat x.2.2.1) (Ty.dflt (Ty.int IntKind.i64))),x.2.1==20||x.2.1==22,()),true,()))))
    .fail)
   (.ite (x.2.1==21||x.2.1==22)
    (.ret (((qq (List.getD x.1.1 (Int.toNat x.2.2.2.1) (Ty.dflt (Ty.int IntKind.i64))),1,0,x.2.1==20||x.2.1==22,()),true,())))
    (.ret (((qq (List.getD x.1.1 (Int.toNat x.2.2.2.1) (Ty.dflt (Ty.int IntKind.i64))),4,0,x.2.1==20||x.2.1==22,()),true,())))))
   .fail))
  .fail)
def qiB (_:qc qf2):Bool:=true
def qi (x:qc qf2):Sh.den qiI:=qf1 (qk x.2 != 0) x.2.1 (rg x.1.1 x.2.2.2.1) (rg x.1.1 x.2.2.1)
theorem qBD (s:qG.den) (op rd rn rm ra imm cond:Int) (w:Bool):(qf8 (s,(op,rd,rn,rm,ra,imm,cond,w,()))).val=some (qf1 (qk (op,rd,rn,rm,ra,imm,cond,w,()) != 0) op (rg s.1 rn) (rg s.1 rd)):=by
 have hck:=qoK (op,rd,rn,rm,ra,imm,cond,w,())
 have hco:=qtE (op,rd,rn,rm,ra,imm,cond,w,())
 have t1:∀n:Int,Int.tmod ((wn n:Nat):Int) 256=((wn n % 256:Nat):Int):=fun n=>by rw[qmv _ _ (by omega)];omega
 cases hc:(qk (op,rd,rn,rm,ra,imm,cond,w,()) != (0:Int))
 ·have h:qk (op,rd,rn,rm,ra,imm,cond,w,())=0:=by simpa using hc
  obtain⟨hop,hrd,hrn,_⟩:=qjM h
  have i1:=qpE hrd
  have i2:=qpE hrn
  rw[hck] at hc
  simp only[qf8,PO.val,hc,hco,i1,i2,qrd,qq,t1]
  unfold qf1
  by_cases h19:op=19
  ·subst h19;rfl
  ·by_cases h20:op=20
   ·subst h20;rfl
   ·by_cases h21:op=21
    ·subst h21;rfl
    ·by_cases h22:op=22
     ·subst h22;rfl
     ·have b19:(op==19)=false:=beq_eq_false_iff_ne.2 h19
      have b20:(op==20)=false:=beq_eq_false_iff_ne.2 h20
      have b21:(op==21)=false:=beq_eq_false_iff_ne.2 h21
      have b22:(op==22)=false:=beq_eq_false_iff_ne.2 h22
      simp[b19,b20,b21,b22]
 ·rw[hck] at hc
  simp[qf8,PO.val,hc,hco,qf1]
theorem qux (x:qc qf2) (_:qiB x=true):(qf8 x).val=some (qi x):=by
 obtain⟨s,op,rd,rn,rm,ra,imm,cond,w,u⟩:=x
 exact qBD s op rd rn rm ra imm cond w
end Go.Av
end
