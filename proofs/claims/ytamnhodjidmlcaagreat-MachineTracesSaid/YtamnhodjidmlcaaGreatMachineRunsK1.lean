/- Texts of the proof, one behind the other. -/
import Derived.Test.YtamnhodjidmlcaaGreatAvClaim
section
namespace Go.Av
open Go
abbrev tI:Ty:=.int .i64
theorem qJ {p:Prop} [Decidable p] (h:p):decide p=true:=decide_eq_true h
theorem qS {p:Prop} [Decidable p] (h:¬p):decide p=false:=decide_eq_false h
theorem qt {n:Int} (h1:-9223372036854775808≤n) (h2:n<9223372036854775808):w64 n=n:=wrap_i64 n h1 (by omega)
theorem inR {i n:Nat} (h:i<n):inRange (i:Int) n=true:=by
 simp[inRange]
 omega
theorem qgC {σ:Type} {turn:σ→PO (TL σ)} (st:Nat→σ) (r:Nat×σ) {n:Nat} (hon:∀i,i<n→(turn (st i)).val=some (.on (st (i+1)))) (hout:(turn (st n)).val=some (.out r.1 r.2)) :
  ∀(k i:Nat),i+k=n→∀f,k<f→qcE turn f (st i)=some r
 |0,i,h,f,hf=>by
  obtain⟨f,rfl⟩:∃g,f=g+1:=⟨f-1,by omega⟩
  have:i=n:=by omega
  subst this
  rw[qbk hout]
 |k+1,i,h,f,hf=>by
  obtain⟨f,rfl⟩:∃g,f=g+1:=⟨f-1,by omega⟩
  have hv:=hon i (by omega)
  rw[qcr hv]
  exact qgC st r hon hout k (i+1) (by omega) f (by omega)
theorem qhD {α:Type} (l:List α) (i:Nat) (d:α):l.getD (Int.toNat (i:Int)) d=l.getD i d:=by simp
theorem qgY {α:Type} (l:List α) (d:α) {i:Nat} (hi:i<l.length):l.getD i d=l[i]:=by
 rw[List.getD_eq_getElem?_getD,List.getElem?_eq_getElem hi];rfl
def qoH (l:List UInt8) (c:Int) (s:Bool×Int):PO (TL (Bool×Int)) :=
 (.ite (decide (s.2<qg l))
  (.ite (inRange s.2 (List.length l))
  (.ite (u8I (List.getD l (Int.toNat s.2) 0)==c)
   (.ret (.out 1 (true,s.2)))
   (.ret (.on (s.1,w64 (s.2+1)))))
  .fail)
  (.ret (.out 0 (s.1,s.2))))
theorem qIx (l:List UInt8) (c:Int) (hl:List.length l<4611686018427387904):∀(k i:Nat),i+k=l.length→∀f,k<f →
  ∃o st,qcE (qoH l c) f (false,(i:Int))=some (o,st)∧(PO.ite (way o) (.ret false) (.ret st.1)).val=some ((l.drop i).any fun b=>u8I b==c)
 |0,i,h,f,hf=>by
  obtain⟨f,rfl⟩:∃g,f=g+1:=⟨f-1,by omega⟩
  have e:(qoH l c (false,(i:Int))).val=some (.out 0 (false,(i:Int))):=by
   simp only[qoH,PO.val,qS (show ¬(i:Int)<qg l by simp only[qg];omega),cond_false]
  exact⟨0,_,qbk e,by rw[List.drop_of_length_le (by omega)];rfl⟩
 |k+1,i,h,f,hf=>by
  obtain⟨f,rfl⟩:∃g,f=g+1:=⟨f-1,by omega⟩
  have hi:i<l.length:=by omega
  have h1:decide ((i:Int)<qg l)=true:=qJ (by simp only[qg];omega)
  rw[List.drop_eq_getElem_cons hi,List.any_cons]
  cases hb:(u8I l[i]==c)
  ·have e:(qoH l c (false,(i:Int))).val=some (.on (false,((i+1:Nat):Int))):=by
    simp only[qoH,PO.val,h1,inR hi,cond_true,qhD,qgY l _ hi,hb,cond_false]
    rw[qt (by omega) (by omega)]
    simp
   obtain⟨o,st,g1,g2⟩:=qIx l c hl k (i+1) (by omega) f (by omega)
   exact⟨o,st,(qcr e).trans g1,by rw[Bool.false_or];exact g2⟩
  ·have e:(qoH l c (false,(i:Int))).val=some (.out 1 (true,(i:Int))):=by
    simp only[qoH,PO.val,h1,inR hi,cond_true,qhD,qgY l _ hi,hb]
   exact⟨1,_,qbk e,rfl⟩
theorem qP8 (l:List UInt8) (c:Int) (t:Bool×Int→PO (TL (Bool×Int))) (ht:∀s,t s=qoH l c s) (hl:List.length l<4611686018427387904) :
  ∃o st,qcE t (l.length+1) (false,0)=some (o,st)∧(PO.ite (way o) (.ret false) (.ret st.1)).val=some (l.any fun b=>u8I b==c):=by
 rw[show t=qoH l c from funext ht]
 exact qIx l c hl l.length 0 (by omega) _ (by omega)
theorem qR8 (n:Int):w64 n=if 9223372036854775808≤n % 18446744073709551616 then n % 18446744073709551616-18446744073709551616 else n % 18446744073709551616:=by
 have h:w64 n=if(true&&decide (n % 18446744073709551616≥9223372036854775808))=true then n % 18446744073709551616-18446744073709551616 else n % 18446744073709551616:=rfl
 rw[h]
 simp only[Bool.true_and,decide_eq_true_eq,ge_iff_le]
theorem qRT (n:Int):IntKind.i32.wrap n=if 2147483648≤n % 4294967296 then n % 4294967296-4294967296 else n % 4294967296:=by
 have h:IntKind.i32.wrap n=if(true&&decide (n % 4294967296≥2147483648))=true then n % 4294967296-4294967296 else n % 4294967296:=rfl
 rw[h]
 simp only[Bool.true_and,decide_eq_true_eq,ge_iff_le]
theorem qd {α:Type} {b:Bool} {p q:PO α} (h:b=true):(PO.ite b p q).val=p.val:=by subst h;rfl
theorem qu {α:Type} {b:Bool} {p q:PO α} (h:b=false):(PO.ite b p q).val=q.val:=by subst h;rfl
theorem qde {α β:Type} {o:Option β} {r:β} {k:β→PO α} (h:o=some r):(PO.opt o k).val=(k r).val:=by subst h;rfl
end Go.Av
end
section
namespace Go.Av
open Go
abbrev qlH:List Ty:=[(.int .i64),(.int .i64),(.int .i64)]
abbrev qou:Sh:=Sh.ty Ty.bool
def qfN (x:qc qlH):PO (Sh.den qou) :=
 (.ret (decide (x.1≥x.2.1)&&decide (x.1≤x.2.2)))
def qrM (_:qc qlH):Bool:=true
def qcI (x:qc qlH):Sh.den qou:=(qfN x).qP default
theorem qAg (x:qc qlH) (_:qrM x=true):(qfN x).val=some (qcI x):=PO.qb1 default (by simp[qfN,PO.sure])
abbrev qmW:List Ty:=[(.int .i64),(.int .i64)]
abbrev qpz:Sh:=Sh.ty Ty.bool
def qg5 (x:qc qmW):PO (Sh.den qpz) :=
 (.ite (x.2==-1)
  (.ret (x.1==0))
  (.ret (qcI (x.1,0,x.2))))
def qsL (_:qc qmW):Bool:=true
def qc2 (x:qc qmW):Sh.den qpz:=(qg5 x).qP default
theorem qA8 (x:qc qmW) (_:qsL x=true):(qg5 x).val=some (qc2 x):=PO.qb1 default (by simp[qg5,PO.sure])
abbrev qlK:List Ty:=[(.int .i64)]
abbrev qoT:Sh:=Sh.tup (Sh.pair (Sh.ty tOp) (Sh.pair (Sh.ty Ty.bool) (Sh.ty Ty.unit)))
def qcL (x:qc qlK):PO (Sh.den qoT) :=
 (.ite (x==1)
  (.ret (((-1,-1,-1,-1,0,0,()),true,())))
  (.ite (x==2)
  (.ret (((-1,-1,-1,-1,0,255,()),true,())))
  (.ite (bif x==3 then x==3 else x==4)
   (.ret (((12,-1,-1,-1,0,65535,()),true,())))
   (.ite (x==5)
   (.ret (((12,-1,12,-1,0,31,()),true,())))
   (.ite (bif x==6 then x==6 else bif x==7 then x==7 else x==8)
    (.ret (((12,-1,12,-1,1,31,()),true,())))
    (.ite (x==9)
    (.ret (((12,-1,12,-1,0,0,()),true,())))
    (.ite (bif x==10 then x==10 else bif x==11 then x==11 else bif x==12 then x==12 else bif x==13 then x==13 else bif x==14 then x==14 else bif x==15 then x==15 else x==16)
     (.ret (((12,12,12,-1,0,0,()),true,())))
     (.ite (x==17)
     (.ret (((12,12,12,12,0,0,()),true,())))
     (.ite (x==18)
      (.ret (((12,12,-1,32,0,31,()),true,())))
      (.ite (bif x==19 then x==19 else bif x==20 then x==20 else bif x==21 then x==21 else x==22)
      (.ret (((7,7,-1,-1,0,0,()),true,())))
      (.ite (x==23)
       (.ret (((-1,7,7,-1,0,0,()),true,())))
       (.ret (((0,0,0,0,0,0,()),false,()))))))))))))))
def qrO (_:qc qlK):Bool:=true
def qbo (x:qc qlK):Sh.den qoT:=(qcL x).qP default
theorem qz0 (x:qc qlK) (_:qrO x=true):(qcL x).val=some (qbo x):=PO.qb1 default (by simp[qcL,PO.sure])
abbrev qmR:List Ty:=[(.int .i64),.bool]
abbrev qpo:Sh:=Sh.tup (Sh.pair (Sh.ty (Ty.int IntKind.i64)) (Sh.pair (Sh.ty (Ty.int IntKind.i64)) (Sh.ty Ty.unit)))
def qiU (x:qc qmR):PO (Sh.den qpo) :=
 (.ite (x.1==24)
  (.ret ((w64 (0-bif x.2 then 16777216 else 2048),w64 ((bif x.2 then 16777216 else 2048)-2),())))
  (.ite (x.1==25)
  (.ret ((w64 (0-bif x.2 then 1048576 else 256),w64 ((bif x.2 then 1048576 else 256)-2),())))
  (.ret ((0,0,())))))
def qsB (_:qc qmR):Bool:=true
def qg2 (x:qc qmR):Sh.den qpo:=(qiU x).qP default
theorem qBf (x:qc qmR) (_:qsB x=true):(qiU x).val=some (qg2 x):=PO.qb1 default (by simp[qiU,PO.sure])
abbrev qlZ:List Ty:=[q9]
abbrev qoV:Sh:=Sh.ty (Ty.int IntKind.i64)
def qhH (x:qc qlZ):PO (Sh.den qoV) :=
 (.ite (x.2.1 != 0||(x.2.2.1 != 0||(x.2.2.2.1 != 0||(x.2.2.2.2.1 != 0||bif x.1==24 then x.2.2.2.2.2.2.1 != 0||true else true))))
  (.ite (x.2.1 != 0||(x.2.2.1 != 0||(x.2.2.2.1 != 0||(x.2.2.2.2.1 != 0||bif x.1==24 then x.2.2.2.2.2.2.1 != 0||!qcI (x.2.2.2.2.2.2.1,0,13) else !qcI (x.2.2.2.2.2.2.1,0,13)))))
  (.ret (2))
  (.ite (qbF IntKind.i64 x.2.2.2.2.2.1 1 != 0||true)
   (.ite (qbF IntKind.i64 x.2.2.2.2.2.1 1 != 0||!qcI (x.2.2.2.2.2.1,(qg2 (x.1,x.2.2.2.2.2.2.2.1)).1,(qg2 (x.1,x.2.2.2.2.2.2.2.1)).2.1))
   (.ret (6))
   (.ret (0)))
   .fail))
  .fail)
def qrD (_:qc qlZ):Bool:=true
def qhA (x:qc qlZ):Sh.den qoV:=(qhH x).qP default
theorem qAz (x:qc qlZ) (_:qrD x=true):(qhH x).val=some (qhA x):=PO.qrB default (by simp[qhH,PO.qxA])
abbrev qmK:List Ty:=[q9]
abbrev qpH:Sh:=Sh.ty (Ty.int IntKind.i64)
def qcA (x:qc qmK):PO (Sh.den qpH) :=
 (.ite (x.1==24||x.1==25)
  (.ret (qhA x))
  (.ite (!(qbo x.1).2.1||(x.2.2.2.2.2.2.2.1||(x.2.2.2.2.2.2.1 != 0||true)))
  (.ite (!(qbo x.1).2.1||(x.2.2.2.2.2.2.2.1||(x.2.2.2.2.2.2.1 != 0||!qcI (x.2.2.2.2.2.1,(qbo x.1).1.2.2.2.2.1,(qbo x.1).1.2.2.2.2.2.1))))
   (.ret (2))
   (.ite (!qc2 (x.2.1,(qbo x.1).1.1)||(!qc2 (x.2.2.1,(qbo x.1).1.2.1)||(!qc2 (x.2.2.2.1,(qbo x.1).1.2.2.1)||true)))
   (.ite (!qc2 (x.2.1,(qbo x.1).1.1)||(!qc2 (x.2.2.1,(qbo x.1).1.2.1)||(!qc2 (x.2.2.2.1,(qbo x.1).1.2.2.1)||!qc2 (x.2.2.2.2.1,(qbo x.1).1.2.2.2.1))))
    (.ret (2))
    (.ite (bif x.1==17 then x.2.2.2.2.1==x.2.1||(x.1==18||true) else x.1==18||true)
    (.ite (bif x.1==17 then x.2.2.2.2.1==x.2.1||x.1==18&&!qcI (x.2.2.2.2.1,1,w64 (32-x.2.2.2.2.2.1)) else x.1==18&&!qcI (x.2.2.2.2.1,1,w64 (32-x.2.2.2.2.2.1)))
     (.ret (2))
     (.ret (0)))
    .fail))
   .fail))
  .fail))
def qsI (_:qc qmK):Bool:=true
def qj (x:qc qmK):Sh.den qpH:=(qcA x).qP default
theorem qA1 (x:qc qmK) (_:qsI x=true):(qcA x).val=some (qj x):=PO.qrB default (by simp[qcA,PO.qxA])
end Go.Av
end
section
namespace Go.Av
open Go
abbrev qhq:List Ty:=[(.int .i64)]
abbrev qkb:Sh:=Sh.ty Ty.str
def qfr (x:qc qhq):PO (Sh.den qkb) :=
 (.ite (x==13)
  (.ret ([49,49,49,48,49,48,49,48,49,48,48,48,110,110,110,110,48,48,48,48,100,100,100,100,48,48,48,48,109,109,109,109]))
  (.ite (x==14)
  (.ret ([49,49,49,48,49,48,49,49,48,48,48,48,110,110,110,110,48,48,48,48,100,100,100,100,48,48,48,48,109,109,109,109]))
  (.ite (x==15)
   (.ret ([49,49,49,48,49,48,49,49,49,48,49,48,110,110,110,110,48,48,48,48,100,100,100,100,48,48,48,48,109,109,109,109]))
   (.ite (x==16)
   (.ret ([49,49,49,49,49,48,49,49,48,48,48,48,110,110,110,110,49,49,49,49,100,100,100,100,48,48,48,48,109,109,109,109]))
   (.ite (x==17)
    (.ret ([49,49,49,49,49,48,49,49,49,48,49,48,110,110,110,110,100,100,100,100,97,97,97,97,48,48,48,48,109,109,109,109]))
    (.ite (x==18)
    (.ret ([49,49,49,49,48,48,49,49,48,49,49,48,110,110,110,110,48,69,68,67,100,100,100,100,66,65,48,119,119,119,119,119]))
    (.ite (x==19)
     (.ret ([48,49,49,48,49,48,48,48,48,48,110,110,110,100,100,100]))
     (.ite (x==20)
     (.ret ([48,49,49,48,48,48,48,48,48,48,110,110,110,100,100,100]))
     (.ite (x==21)
      (.ret ([48,49,49,49,49,48,48,48,48,48,110,110,110,100,100,100]))
      (.ite (x==22)
      (.ret ([48,49,49,49,48,48,48,48,48,48,110,110,110,100,100,100]))
      (.ite (x==23)
       (.ret ([48,49,48,48,48,48,49,48,49,48,109,109,109,110,110,110]))
       (.ite (x==24)
       (.ret ([49,49,49,48,48,76,75,74,73,72,71,70,69,68,67,66]))
       (.ite (x==25)
        (.ret ([49,49,48,49,99,99,99,99,73,72,71,70,69,68,67,66]))
        (.ret ([])))))))))))))))
def qnl (_:qc qhq):Bool:=true
def qfp (x:qc qhq):Sh.den qkb:=(qfr x).qP default
theorem qwo (x:qc qhq) (_:qnl x=true):(qfr x).val=some (qfp x):=PO.qb1 default (by simp[qfr,PO.sure])
abbrev qhu:List Ty:=[(.int .i64),.bool]
abbrev qj4:Sh:=Sh.ty Ty.str
def qfo (x:qc qhu):PO (Sh.den qj4) :=
 (.ite (x.2)
  (.ite (x.1==24)
  (.ret ([49,49,49,49,48,89,86,85,84,83,82,81,80,79,78,77,49,48,120,49,121,76,75,74,73,72,71,70,69,68,67,66]))
  (.ite (x.1==25)
   (.ret ([49,49,49,49,48,85,99,99,99,99,82,81,80,79,78,77,49,48,83,48,84,76,75,74,73,72,71,70,69,68,67,66]))
   (.ret ([]))))
  (.ite (x.1==1)
  (.ret ([49,48,49,49,49,49,49,49,48,48,48,48,48,48,48,48]))
  (.ite (x.1==2)
   (.ret ([49,48,49,49,49,49,49,48,72,71,70,69,68,67,66,65]))
   (.ite (x.1==3)
   (.ret ([49,49,49,49,48,76,49,48,48,49,48,48,80,79,78,77,48,75,74,73,100,100,100,100,72,71,70,69,68,67,66,65]))
   (.ite (x.1==4)
    (.ret ([49,49,49,49,48,76,49,48,49,49,48,48,80,79,78,77,48,75,74,73,100,100,100,100,72,71,70,69,68,67,66,65]))
    (.ite (x.1==5)
    (.ret ([49,49,49,48,49,48,49,48,48,49,48,48,49,49,49,49,48,69,68,67,100,100,100,100,66,65,48,48,109,109,109,109]))
    (.ite (x.1==6)
     (.ret ([49,49,49,48,49,48,49,48,48,49,48,48,49,49,49,49,48,69,68,67,100,100,100,100,66,65,48,49,109,109,109,109]))
     (.ite (x.1==7)
     (.ret ([49,49,49,48,49,48,49,48,48,49,48,48,49,49,49,49,48,69,68,67,100,100,100,100,66,65,49,48,109,109,109,109]))
     (.ite (x.1==8)
      (.ret ([49,49,49,48,49,48,49,48,48,49,48,48,49,49,49,49,48,69,68,67,100,100,100,100,66,65,49,49,109,109,109,109]))
      (.ite (x.1==9)
      (.ret ([49,49,49,48,49,48,49,48,48,49,49,48,49,49,49,49,48,48,48,48,100,100,100,100,48,48,48,48,109,109,109,109]))
      (.ite (x.1==10)
       (.ret ([49,49,49,48,49,48,49,48,48,48,48,48,110,110,110,110,48,48,48,48,100,100,100,100,48,48,48,48,109,109,109,109]))
       (.ite (x.1==11)
       (.ret ([49,49,49,48,49,48,49,48,48,48,49,48,110,110,110,110,48,48,48,48,100,100,100,100,48,48,48,48,109,109,109,109]))
       (.ite (x.1==12)
        (.ret ([49,49,49,48,49,48,49,48,48,49,48,48,110,110,110,110,48,48,48,48,100,100,100,100,48,48,48,48,109,109,109,109]))
        (.ret (qfp x.1)))))))))))))))
def qni (_:qc qhu):Bool:=true
def qb (x:qc qhu):Sh.den qj4:=(qfo x).qP default
theorem qwA (x:qc qhu) (_:qni x=true):(qfo x).val=some (qb x):=PO.qb1 default (by simp[qfo,PO.sure])
def qgB:LoopN where
 M:=[0,1,4,5]
 T:=[6,7,8,9,10,11,12,13,14,15,16]
 D:=[0,1,5]
 ss:=[.ty .str,.ty (.int .u8),.ty .bool,.ty (.int .i64)]
 hs:=[]
 es:=[.exit 0,.ret]
 σ:=(Ty.den .bool)×(Ty.den (.int .i64))
 x0:=fun x _=>(x.2.2.1,x.2.2.2)
 put:=fun x _ s=>((x.1,x.2.1,s.1,s.2),())
 fuel:=fun x _=>List.length x.1+1
 turn:=fun x _ s =>
 (.ite (decide (s.2<qg x.1))
  (.ite (inRange s.2 (List.length x.1))
  (.ite (u8I (List.getD x.1 (Int.toNat s.2) 0)==x.2.1)
   (.ret (.out 1 (true,s.2)))
   (.ret (.on (s.1,w64 (s.2+1)))))
  .fail)
  (.ret (.out 0 (s.1,s.2))))
abbrev qhZ:List Ty:=[.str,(.int .u8)]
abbrev qk5:Sh:=Sh.ty Ty.bool
def qnN (x:qc qhZ):PO (Sh.den qk5) :=
 (.opt (LoopN.res qgB (x.1,x.2,false,0) ()) fun p0 =>
  (.ite (way p0.1)
  (.ret (false))
  (.ret (p0.2.1))))
def qif (x:qc qhZ):Bool:=decide (List.length x.1<4611686018427387904)
def qh5 (x:qc qhZ):Sh.den qk5:=List.any x.1 fun b=>u8I b==x.2
theorem qwU (x:qc qhZ) (h:qif x=true):(qnN x).val=some (qh5 x):=by
 obtain⟨s,c⟩:=x
 have hs:List.length s<4611686018427387904:=of_decide_eq_true h
 obtain⟨o,st,h1,h2⟩:=qP8 s c (qgB.turn (s,c,false,0) ()) (fun _=>rfl) hs
 have h1':LoopN.res qgB (s,c,false,0) ()=some (o,st):=h1
 unfold qnN PO.val
 rw[h1']
 exact h2
abbrev qin:List Ty:=[.str,(.int .u8),(.int .i64)]
abbrev qkN:Sh:=Sh.ty Ty.bool
def qf5 (x:qc qin):PO (Sh.den qkN) :=
 (.ite (qif (x.1,x.2.1))
  (.ite (!qh5 (x.1,x.2.1))
  (.ret (x.2.2==0))
  (.ret (decide (x.2.2≥0)&&decide (x.2.2≤bif qg x.1==16 then 7 else 12))))
  .fail)
def qdt (x:qc qin):Bool:=(qf5 x).val.isSome
def qcp (x:qc qin):Sh.den qkN:=(qf5 x).qP default
theorem qw0 (x:qc qin) (h:qdt x=true):(qf5 x).val=some (qcp x):=PO.qb4 default h
abbrev qgz:List Ty:=[(.int .i64),.bool]
abbrev qjh:Sh:=Sh.tup (Sh.pair (Sh.ty (Ty.int IntKind.i64)) (Sh.pair (Sh.ty (Ty.int IntKind.i64)) (Sh.ty Ty.unit)))
def qgJ (x:qc qgz):PO (Sh.den qjh) :=
 (.ret ((w64 (0-bif x.1==24&&!x.2 then 2048 else bif x.1==24 then 16777216 else bif x.1==25&&!x.2 then 256 else bif x.1==25 then 1048576 else 0),imax 0 (w64 ((bif x.1==24&&!x.2 then 2048 else bif x.1==24 then 16777216 else bif x.1==25&&!x.2 then 256 else bif x.1==25 then 1048576 else 0)-2)),())))
def qme (_:qc qgz):Bool:=true
def qdr (x:qc qgz):Sh.den qjh:=(qgJ x).qP default
theorem qu0 (x:qc qgz) (_:qme x=true):(qgJ x).val=some (qdr x):=PO.qb1 default (by simp[qgJ,PO.sure])
abbrev qf1:List Ty:=[q9]
abbrev qiB:Sh:=Sh.ty Ty.bool
def qfK (x:qc qf1):PO (Sh.den qiB) :=
 (.ite (x.1==2)
  (.ret (decide (x.2.2.2.2.2.1≥0)&&decide (x.2.2.2.2.2.1≤255)))
  (.ite (bif x.1==3 then x.1==3 else x.1==4)
  (.ret (decide (x.2.2.2.2.2.1≥0)&&decide (x.2.2.2.2.2.1≤65535)))
  (.ite (bif x.1==5 then x.1==5 else x.1==18)
   (.ret (decide (x.2.2.2.2.2.1≥0)&&decide (x.2.2.2.2.2.1≤31)))
   (.ite (bif x.1==6 then x.1==6 else bif x.1==7 then x.1==7 else x.1==8)
   (.ret (decide (x.2.2.2.2.2.1≥1)&&decide (x.2.2.2.2.2.1≤31)))
   (.ite (bif x.1==24 then x.1==24 else x.1==25)
    (.ret (true))
    (.ret (decide (x.2.2.2.2.2.1≥0)&&decide (x.2.2.2.2.2.1≤0))))))))
def ql3 (_:qc qf1):Bool:=true
def qeA (x:qc qf1):Sh.den qiB:=(qfK x).qP default
theorem quJ (x:qc qf1) (_:ql3 x=true):(qfK x).val=some (qeA x):=PO.qb1 default (by simp[qfK,PO.sure])
abbrev qgj:List Ty:=[q9]
abbrev qjf:Sh:=Sh.ty (Ty.int IntKind.i64)
def qeV (x:qc qgj):PO (Sh.den qjf) :=
 (.ite (qb (x.1,x.2.2.2.2.2.2.2.1)==[]||(!qeA x||qdt (qb (x.1,x.2.2.2.2.2.2.2.1),100,x.2.1)&&(!qcp (qb (x.1,x.2.2.2.2.2.2.2.1),100,x.2.1)||qdt (qb (x.1,x.2.2.2.2.2.2.2.1),110,x.2.2.1)&&(!qcp (qb (x.1,x.2.2.2.2.2.2.2.1),110,x.2.2.1)||qdt (qb (x.1,x.2.2.2.2.2.2.2.1),109,x.2.2.2.1)&&(!qcp (qb (x.1,x.2.2.2.2.2.2.2.1),109,x.2.2.2.1)||qdt (qb (x.1,x.2.2.2.2.2.2.2.1),97,bif x.1==18 then 0 else x.2.2.2.2.1))))))
  (.ite (qb (x.1,x.2.2.2.2.2.2.2.1)==[]||(!qeA x||(!qcp (qb (x.1,x.2.2.2.2.2.2.2.1),100,x.2.1)||(!qcp (qb (x.1,x.2.2.2.2.2.2.2.1),110,x.2.2.1)||(!qcp (qb (x.1,x.2.2.2.2.2.2.2.1),109,x.2.2.2.1)||!qcp (qb (x.1,x.2.2.2.2.2.2.2.1),97,bif x.1==18 then 0 else x.2.2.2.2.1))))))
  (.ret (2))
  (.ite (bif x.1==18 then decide (x.2.2.2.2.1<1)||(decide (x.2.2.2.2.1 > w64 (32-x.2.2.2.2.2.1))||x.1==17&&x.2.2.2.2.1==x.2.1) else x.1==17&&x.2.2.2.2.1==x.2.1)
   (.ret (2))
   (.ite (bif x.1==25 then decide (x.2.2.2.2.2.2.1<0)||(decide (x.2.2.2.2.2.2.1 > 13)||x.1 != 25&&x.2.2.2.2.2.2.1 != 0) else x.1 != 25&&x.2.2.2.2.2.2.1 != 0)
   (.ret (2))
   (.ite (bif x.1==24 then Int.tmod x.2.2.2.2.2.1 2 != 0||(decide (x.2.2.2.2.2.1<(qdr (x.1,x.2.2.2.2.2.2.2.1)).1)||decide (x.2.2.2.2.2.1 > (qdr (x.1,x.2.2.2.2.2.2.2.1)).2.1)) else x.1==25&&(Int.tmod x.2.2.2.2.2.1 2 != 0||(decide (x.2.2.2.2.2.1<(qdr (x.1,x.2.2.2.2.2.2.2.1)).1)||decide (x.2.2.2.2.2.1 > (qdr (x.1,x.2.2.2.2.2.2.2.1)).2.1))))
    (.ret (6))
    (.ret (0))))))
  .fail)
def qbC (x:qc qgj):Bool:=(qeV x).val.isSome
def qn (x:qc qgj):Sh.den qjf:=(qeV x).qP default
theorem qu9 (x:qc qgj) (h:qbC x=true):(qeV x).val=some (qn x):=PO.qb4 default h
end Go.Av
end
section
namespace Go.Av
open Go
theorem qgi (n:Int):n=1∨n=2∨n=3∨n=4∨n=5∨n=6∨n=7∨n=8∨n=9∨n=10∨n=11∨n=12∨n=13∨n=14∨n=15∨n=16∨n=17∨n=18∨n=19∨n=20∨n=21∨n=22∨n=23∨n=24∨n=25∨(n<1∨25<n):=by omega
theorem qp5 {n k:Int} (h:n<1∨25<n) (hk:1≤k∧k≤25):(n==k)=false:=by
 rw[beq_eq_false_iff_ne]
 omega
theorem qsb {n:Int} (h:n<1∨25<n) (w:Bool):qb (n,w)=[]:=by
 have e:=fun k hk=>qp5 (n:=n) (k:=k) h hk
 cases w<;>simp[qb,qfo,qfp,qfr,PO.qP,PO.val,e]
theorem qN4 (n:Int) (w:Bool):(qb (n,w)).length≤32:=by
 rcases qgi n with rfl |rfl |rfl |rfl |rfl |rfl |rfl |rfl |rfl |rfl |rfl |rfl |rfl |rfl |rfl |rfl |rfl |rfl |rfl |rfl |rfl |rfl |rfl |rfl |rfl |h
 case inr.inr.inr.inr.inr.inr.inr.inr.inr.inr.inr.inr.inr.inr.inr.inr.inr.inr.inr.inr.inr.inr.inr.inr.inr=>rw[qsb h];simp
 all_goals (cases w<;>decide)
theorem qR3 (n:Int) (w:Bool) (c:Int):qif (qb (n,w),c)=true:=by
 have:=qN4 n w
 exact qJ (show List.length (qb (n,w))<_ by omega)
theorem qJ8 (n:Int) (w:Bool) (c r:Int):(qf5 (qb (n,w),c,r)).val=some (bif List.any (qb (n,w)) (fun b=>u8I b==c) then decide (r≥0)&&decide (r≤bif (qg (qb (n,w))==16) then 7 else 12) else r==0):=by
 simp only[qf5,PO.val,qh5]
 rw[qR3]
 cases List.any (qb (n,w)) (fun b=>u8I b==c)<;>rfl
theorem qso (n:Int) (w:Bool) (c r:Int):qdt (qb (n,w),c,r)=true:=by
 rw[qdt,qJ8];rfl
theorem qzU (n:Int) (w:Bool) (c r:Int):qcp (qb (n,w),c,r)=(bif List.any (qb (n,w)) (fun b=>u8I b==c) then decide (r≥0)&&decide (r≤bif (qg (qb (n,w))==16) then 7 else 12) else r==0):=by
 rw[qcp,PO.qP,qJ8];rfl
theorem qMK {α:Type} (b:Bool) (x y:Option α) (hx:x.isSome=true) (hy:y.isSome=true):(bif b then x else y).isSome=true:=by
 cases b<;>assumption
theorem qtN (x:q9.den):qbC x=true:=by
 obtain⟨op,rd,rn,rm,ra,imm,cond,w,u⟩:=x
 unfold qbC qeV
 simp only[PO.val]
 rw[qso,qso,qso,qso]
 simp only[Bool.or_true,Bool.and_true,cond_true]
 repeat' (first|rfl |apply qMK)
theorem qOu (n:Int):(qbF .i64 n 1 != 0)=(Int.tmod n 2 != 0):=by
 have h:qbF .i64 n 1=n % 2:=qjL n 1 (by omega)
 rw[h,Bool.eq_iff_iff]
 simp only[bne_iff_ne,ne_eq]
 exact not_congr ((Int.dvd_iff_emod_eq_zero (a:=2) (b:=n)).symm.trans Int.dvd_iff_tmod_eq_zero)
theorem qux (imm:Int) (h1:0≤imm) (h2:imm≤31):w64 (32-imm)=32-imm:=qt (by omega) (by omega)
set_option maxHeartbeats 4000000 in
theorem qoF (x:q9.den):qj x=qn x:=by
 obtain⟨op,rd,rn,rm,ra,imm,cond,w,u⟩:=x
 have hw:=qux imm
 have w1:w64 (-2048)=-2048:=rfl
 have w2:w64 2046=2046:=rfl
 have w3:w64 (-16777216)=-16777216:=rfl
 have w4:w64 16777214=16777214:=rfl
 have w5:w64 (-256)=-256:=rfl
 have w6:w64 254=254:=rfl
 have w7:w64 (-1048576)=-1048576:=rfl
 have w8:w64 1048574=1048574:=rfl
 have m1:imax 0 2046=2046:=rfl
 have m2:imax 0 16777214=16777214:=rfl
 have m3:imax 0 254=254:=rfl
 have m4:imax 0 1048574=1048574:=rfl
 unfold qn qeV
 dsimp only[PO.qP,PO.val]
 rw[qso,qso,qso,qso,qzU,qzU,qzU,qzU]
 rcases qgi op with rfl |rfl |rfl |rfl |rfl |rfl |rfl |rfl |rfl |rfl |rfl |rfl |rfl |rfl |rfl |rfl |rfl |rfl |rfl |rfl |rfl |rfl |rfl |rfl |rfl |hop
 case inr.inr.inr.inr.inr.inr.inr.inr.inr.inr.inr.inr.inr.inr.inr.inr.inr.inr.inr.inr.inr.inr.inr.inr.inr =>
  rw[qsb hop]
  have e:=fun k hk=>qp5 (n:=op) (k:=k) hop hk
  simp[qj,qcA,qbo,qcL,PO.qP,PO.val,e]
 all_goals
  cases w <;>
  simp[qb,qfo,qfp,qfr,qj,qcA,qbo,qcL,qc2,qg5,qcI,qfN,PO.qP,PO.val,qeA,qfK,u8I,qg,qhA,qhH,qg2,qiU,qdr,qgJ,qOu,w1,w2,w3,w4,w5,w6,w7,w8,m1,m2,m3,m4]<;>grind
end Go.Av
end
section
namespace Go.Av
open Go
def wn (n:Int):Nat:=(n % 4294967296).toNat
theorem qlV (n:Int):(wn n:Int)=n % 4294967296:=by unfold wn;omega
theorem qdC (n:Int):wn n<4294967296:=by unfold wn;omega
theorem qgu {k:Nat} (h:k<4294967296):wn (k:Int)=k:=by unfold wn;omega
theorem qut (n:Int):wn (wn n:Int)=wn n:=qgu (qdC n)
theorem qQf (n:Int):qbF .i64 n 4294967295=n % 4294967296:=qjL n 32 (by omega)
theorem qQT (n:Int):qbF .i64 n 31=n % 32:=qjL n 5 (by omega)
theorem qwu (n:Int):qbF .i64 n 1=n % 2:=qjL n 1 (by omega)
theorem qSY (n:Int):n % 18446744073709551616 % 4294967296=n % 4294967296:=Int.emod_emod_of_dvd n (by decide)
theorem qlL (n:Int):w64 n % 4294967296=n % 4294967296:=by
 rw[qR8];split<;>omega
theorem qvt (n:Nat):wn (w64 (n:Int))=n % 4294967296:=by unfold wn;rw[qlL];omega
theorem qkt (n:Int):(BitVec.ofInt 64 n).toNat % 4294967296=wn n:=by
 have:=qrP 64 n
 unfold wn
 omega
abbrev qpg:List Ty:=[(.int .i64)]
abbrev qr2:Sh:=Sh.ty (Ty.int IntKind.i64)
def qyX (x:qc qpg):PO (Sh.den qr2) :=
 (.ret (qbF IntKind.i64 x 4294967295))
def quP (_:qc qpg):Bool:=true
def qbb (x:qc qpg):Sh.den qr2:=(wn x:Int)
theorem qFC (x:qc qpg) (_:quP x=true):(qyX x).val=some (qbb x):=by
 show some _=some _
 rw[qQf,qbb,qlV]
def kk (n:Int):Nat:=(n % 32).toNat
theorem qMF (n:Int):(kk n:Int)=n % 32:=by unfold kk;omega
theorem qtp (n:Int):kk n<32:=by unfold kk;omega
abbrev qo8:List Ty:=[(.int .i64)]
abbrev qr1:Sh:=Sh.ty (Ty.int IntKind.i64)
def qyK (x:qc qo8):PO (Sh.den qr1) :=
 (.ret (qbF IntKind.i64 x 31))
def quD (_:qc qo8):Bool:=true
def qdh (x:qc qo8):Sh.den qr1:=(kk x:Int)
theorem qFx (x:qc qo8) (_:quD x=true):(qyK x).val=some (qdh x):=by
 show some _=some _
 rw[qQT,qdh,qMF]
abbrev qra:List Ty:=[(.int .i64),(.int .i64)]
abbrev qs0:Sh:=Sh.ty (Ty.int IntKind.i64)
def qzK (x:qc qra):PO (Sh.den qs0) :=
 (.ret (qbb (w64 (x.1+x.2))))
def qwi (_:qc qra):Bool:=true
def qju (x:qc qra):Sh.den qs0:=(wn (x.1+x.2):Int)
theorem qIQ (x:qc qra) (_:qwi x=true):(qzK x).val=some (qju x):=by
 show some _=some _
 rw[qbb,qju,qlV,qlV,qlL]
abbrev qqx:List Ty:=[(.int .i64),(.int .i64)]
abbrev qtm:Sh:=Sh.ty (Ty.int IntKind.i64)
def qzN (x:qc qqx):PO (Sh.den qtm) :=
 (.ret (qbb (w64 (x.1-x.2))))
def qwb (_:qc qqx):Bool:=true
def qja (x:qc qqx):Sh.den qtm:=(wn (x.1-x.2):Int)
theorem qIP (x:qc qqx) (_:qwb x=true):(qzN x).val=some (qja x):=by
 show some _=some _
 rw[qbb,qja,qlV,qlV,qlL]
abbrev ql0:List Ty:=[(.int .i64),(.int .i64)]
abbrev qoR:Sh:=Sh.ty (Ty.int IntKind.u64)
def qu7 (x:qc ql0):PO (Sh.den qoR) :=
 (.ret (IntKind.wrap IntKind.u64 (IntKind.wrap IntKind.u64 (qbb x.1)*IntKind.wrap IntKind.u64 (qbb x.2))))
def qrv (_:qc ql0):Bool:=true
def qfX (x:qc ql0):Sh.den qoR:=((wn x.1*wn x.2:Nat):Int)
theorem qzD (x:qc ql0) (_:qrv x=true):(qu7 x).val=some (qfX x):=by
 show some _=some _
 have h1:=qdC x.1
 have h2:=qdC x.2
 have h3:wn x.1*wn x.2≤4294967295*4294967295:=Nat.mul_le_mul (by omega) (by omega)
 rw[qfX]
 simp only[qbb,qt8]
 rw[Int.emod_eq_of_lt (a:=(wn x.1:Int)) (by omega) (by omega),Int.emod_eq_of_lt (a:=(wn x.2:Int)) (by omega) (by omega)]
 have e:(wn x.1:Int)*(wn x.2:Int)=((wn x.1*wn x.2:Nat):Int):=by simp
 rw[e,Int.emod_eq_of_lt (by omega) (by omega)]
theorem qx3 {a b:Int} (h:a % 4294967296=b % 4294967296):wn a=wn b:=by unfold wn;rw[h]
theorem qAK (a b:Int):wn a*wn b≤18446744065119617025:=by
 have h1:=qdC a
 have h2:=qdC b
 exact Nat.mul_le_mul (show wn a≤4294967295 by omega) (show wn b≤4294967295 by omega)
theorem qnZ {m:Nat} (h:m<18446744073709551616):(BitVec.ofInt 64 (m:Int)).toNat=m:=by
 have:=qrP 64 m
 omega
theorem qO9 {m:Nat} (h:m<18446744073709551616):qbF .u64 (m:Int) 4294967295=((m % 4294967296:Nat):Int):=by
 show IntKind.u64.wrap (BitVec.ofInt 64 (m:Int) &&& BitVec.ofInt 64 4294967295).toNat=_
 rw[BitVec.toNat_and,qnZ h,show(BitVec.ofInt 64 4294967295).toNat=2 ^ 32-1 from by decide,Nat.and_two_pow_sub_one_eq_mod,qt8]
 omega
theorem qNJ (a b:Int):wn (qbF .i64 a b)=wn a &&& wn b:=by
 show wn (w64 (BitVec.ofInt 64 a &&& BitVec.ofInt 64 b).toNat)=_
 rw[qvt,BitVec.toNat_and,show(4294967296:Nat)=2 ^ 32 from rfl,Nat.and_mod_two_pow,←qkt a,←qkt b]
theorem qTj (a b:Int):wn (bor .i64 a b)=wn a |||wn b:=by
 show wn (w64 (BitVec.ofInt 64 a |||BitVec.ofInt 64 b).toNat)=_
 rw[qvt,BitVec.toNat_or,show(4294967296:Nat)=2 ^ 32 from rfl,Nat.or_mod_two_pow,←qkt a,←qkt b]
theorem qRB (a b:Int):wn (qh3 .i64 a b)=wn a ^^^ wn b:=by
 show wn (w64 (BitVec.ofInt 64 a ^^^ BitVec.ofInt 64 b).toNat)=_
 rw[qvt,BitVec.toNat_xor,show(4294967296:Nat)=2 ^ 32 from rfl,Nat.xor_mod_two_pow,←qkt a,←qkt b]
theorem qSp (a:Int):wn (ql2 .i64 a)=4294967295-wn a:=by
 have e:ql2 .i64 a=w64 (BitVec.ofInt 64 (-1) ^^^ BitVec.ofInt 64 a).toNat:=by
  unfold ql2
  rw[if_pos (by rfl)]
  rfl
 rw[e,show BitVec.ofInt 64 (-1)=BitVec.allOnes 64 from by decide,BitVec.allOnes_xor,qvt,BitVec.toNat_not,←qkt a]
 have:=(BitVec.ofInt 64 a).isLt
 omega
theorem qP2 (a b:Int):wn (qeg .i64 a b)=wn a &&& (4294967295-wn b):=by
 show wn (w64 (BitVec.ofInt 64 a &&& ~~~(BitVec.ofInt 64 b)).toNat)=_
 rw[qvt,BitVec.toNat_and,show(4294967296:Nat)=2 ^ 32 from rfl,Nat.and_mod_two_pow,BitVec.toNat_not,←qkt a,←qkt b]
 have:=(BitVec.ofInt 64 b).isLt
 congr 1
 omega
theorem qrH (a:Int) (k:Nat) (hk:k≤64):qz .i64 a (k:Int)=w64 (a*2 ^ k):=by
 unfold qz
 have:min (k:Int).toNat IntKind.i64.bits=k:=by simp[IntKind.bits];omega
 rw[this]
theorem qeM {k n:Nat} (h:k≤n):2 ^ k≤2 ^ n:=Nat.pow_le_pow_right (by omega) h
theorem qHM (a:Nat) (k:Nat) (hk:k≤64):wn (qz .i64 (a:Int) (k:Int))=a*2 ^ k % 4294967296:=by
 rw[qrH _ _ hk,show(a:Int)*2 ^ k=((a*2 ^ k:Nat):Int) by simp,qvt]
abbrev qqc:List Ty:=[(.int .i64),(.int .i64)]
abbrev qs9:Sh:=Sh.ty (Ty.int IntKind.i64)
def qzE (x:qc qqc):PO (Sh.den qs9) :=
 (.ret (w64 (qbF IntKind.u64 (qfX (x.1,x.2)) 4294967295)))
def qwq (_:qc qqc):Bool:=true
def qlk (x:qc qqc):Sh.den qs9:=((wn x.1*wn x.2 % 4294967296:Nat):Int)
theorem qIF (x:qc qqc) (_:qwq x=true):(qzE x).val=some (qlk x):=by
 show some _=some _
 have h:=qAK x.1 x.2
 simp only[qfX,qlk]
 rw[qO9 (by omega),qt (by omega) (by omega)]
abbrev qph:List Ty:=[(.int .i64),(.int .i64)]
abbrev qr9:Sh:=Sh.ty (Ty.int IntKind.i64)
def qyF (x:qc qph):PO (Sh.den qr9) :=
 (.ret (w64 (q8 IntKind.u64 (qfX (x.1,x.2)) 32)))
def quQ (_:qc qph):Bool:=true
def qnb (x:qc qph):Sh.den qr9:=((wn x.1*wn x.2 / 4294967296:Nat):Int)
theorem qFj (x:qc qph) (_:quQ x=true):(qyF x).val=some (qnb x):=by
 show some _=some _
 have h:=qAK x.1 x.2
 simp only[qfX,qnb]
 have e:q8 .u64 ((wn x.1*wn x.2:Nat):Int) 32=((wn x.1*wn x.2 / 4294967296:Nat):Int):=by
  unfold q8
  rw[show min (32:Int).toNat IntKind.u64.bits=32 from rfl,Int.fdiv_eq_ediv_of_nonneg _ (by omega)]
  omega
 rw[e,qt (by omega) (by omega)]
abbrev qqf:List Ty:=[(.int .i64)]
abbrev qs8:Sh:=Sh.ty (Ty.int IntKind.i64)
def qzw (x:qc qqf):PO (Sh.den qs8) :=
 (.ret (qbb (ql2 IntKind.i64 x)))
def qwv (_:qc qqf):Bool:=true
def qgN (x:qc qqf):Sh.den qs8:=((4294967295-wn x:Nat):Int)
theorem qJg (x:qc qqf) (_:qwv x=true):(qzw x).val=some (qgN x):=by
 show some _=some _
 rw[qbb,qgN,qSp]
abbrev qqA:List Ty:=[(.int .i64),(.int .i64)]
abbrev qs4:Sh:=Sh.ty (Ty.int IntKind.i64)
def qAj (x:qc qqA):PO (Sh.den qs4) :=
 (.ret (qbb (qbF IntKind.i64 x.1 x.2)))
def qwp (_:qc qqA):Bool:=true
def qk6 (x:qc qqA):Sh.den qs4:=((wn x.1 &&& wn x.2:Nat):Int)
theorem qI7 (x:qc qqA) (_:qwp x=true):(qAj x).val=some (qk6 x):=by
 show some _=some _
 rw[qbb,qk6,qNJ]
abbrev qsh:List Ty:=[(.int .i64),(.int .i64)]
abbrev qun:Sh:=Sh.ty (Ty.int IntKind.i64)
def qBv (x:qc qsh):PO (Sh.den qun) :=
 (.ret (qbb (bor IntKind.i64 x.1 x.2)))
def qxT (_:qc qsh):Bool:=true
def qkv (x:qc qsh):Sh.den qun:=((wn x.1 |||wn x.2:Nat):Int)
theorem qLo (x:qc qsh) (_:qxT x=true):(qBv x).val=some (qkv x):=by
 show some _=some _
 rw[qbb,qkv,qTj]
abbrev qp8:List Ty:=[(.int .i64),(.int .i64)]
abbrev qsY:Sh:=Sh.ty (Ty.int IntKind.i64)
def qzL (x:qc qp8):PO (Sh.den qsY) :=
 (.ret (qbb (qh3 IntKind.i64 x.1 x.2)))
def qwn (_:qc qp8):Bool:=true
def qhP (x:qc qp8):Sh.den qsY:=((wn x.1 ^^^ wn x.2:Nat):Int)
theorem qIR (x:qc qp8) (_:qwn x=true):(qzL x).val=some (qhP x):=by
 show some _=some _
 rw[qbb,qhP,qRB]
abbrev qqj:List Ty:=[(.int .i64),(.int .i64)]
abbrev qs6:Sh:=Sh.ty (Ty.int IntKind.i64)
def qAe (x:qc qqj):PO (Sh.den qs6) :=
 (.ite (!decide (qdh x.2<0)&&true)
  (.ret (qbb (qz IntKind.i64 (qbb x.1) (qdh x.2))))
  .fail)
def qvP (_:qc qqj):Bool:=true
def qot (x:qc qqj):Sh.den qs6:=((wn x.1*2 ^ kk x.2 % 4294967296:Nat):Int)
theorem qIT (x:qc qqj) (_:qvP x=true):(qAe x).val=some (qot x):=by
 obtain⟨a,n⟩:=x
 have hk:=qtp n
 have hd:decide ((kk n:Int)<0)=false:=qS (by omega)
 show(bif !decide ((kk n:Int)<0)&&true then some ((wn (qz .i64 (wn a:Int) (kk n:Int)):Nat):Int) else none)=some ((wn a*2 ^ kk n % 4294967296:Nat):Int)
 rw[hd,qHM _ _ (by omega)]
 rfl
abbrev qrb:List Ty:=[(.int .i64),(.int .i64)]
abbrev qs7:Sh:=Sh.ty (Ty.int IntKind.i64)
def qzB (x:qc qrb):PO (Sh.den qs7) :=
 (.ite (!decide (qdh x.2<0))
  (.ret (q8 IntKind.i64 (qbb x.1) (qdh x.2)))
  .fail)
def qqV (_:qc qrb):Bool:=true
def qld (x:qc qrb):Sh.den qs7:=((wn x.1 / 2 ^ kk x.2:Nat):Int)
theorem qJe (x:qc qrb) (_:qqV x=true):(qzB x).val=some (qld x):=by
 obtain⟨a,n⟩:=x
 have hk:=qtp n
 have hd:decide ((kk n:Int)<0)=false:=qS (by omega)
 show(bif !decide ((kk n:Int)<0) then some (q8 .i64 (wn a:Int) (kk n:Int)) else none)=some ((wn a / 2 ^ kk n:Nat):Int)
 rw[hd,qog _ _ (by omega)]
 simp
abbrev qqD:List Ty:=[(.int .i64),(.int .i64)]
abbrev qs2:Sh:=Sh.ty (Ty.int IntKind.i64)
def qz2 (x:qc qqD):PO (Sh.den qs2) :=
 (.ite (!decide (qdh x.2<0)&&true)
  (.ret (qbb (q8 IntKind.i64 (w64 (IntKind.wrap IntKind.i32 (IntKind.wrap IntKind.u32 (qbb x.1)))) (qdh x.2))))
  .fail)
def sw (m:Nat):Int:=if 2147483648≤m then(m:Int)-4294967296 else m
def qvL (_:qc qqD):Bool:=true
def qqd (x:qc qqD):Sh.den qs2:=(wn (sw (wn x.1) / (2 ^ kk x.2:Nat)):Int)
theorem qI8 (x:qc qqD) (_:qvL x=true):(qz2 x).val=some (qqd x):=by
 obtain⟨a,n⟩:=x
 have hk:=qtp n
 have hl:=qdC a
 have e:w64 (IntKind.i32.wrap (IntKind.u32.wrap (wn a:Int)))=sw (wn a):=by
  rw[qN5,qRT,Int.emod_emod_of_dvd _ (by decide),Int.emod_eq_of_lt (by omega) (by omega)]
  unfold sw
  split
  ·rw[if_pos (by omega),qt (by omega) (by omega)]
  ·rw[if_neg (by omega),qt (by omega) (by omega)]
 have hd:decide ((kk n:Int)<0)=false:=qS (by omega)
 show(bif !decide ((kk n:Int)<0)&&true then some ((wn (q8 .i64 (w64 (IntKind.i32.wrap (IntKind.u32.wrap (wn a:Int)))) (kk n:Int)):Nat):Int) else none)=some ((wn (sw (wn a) / (2 ^ kk n:Nat)):Nat):Int)
 rw[hd,e,qog _ _ (by omega)]
 rfl
abbrev qqT:List Ty:=[(.int .i64),(.int .i64)]
abbrev qtn:Sh:=Sh.ty (Ty.int IntKind.i64)
def qz9 (x:qc qqT):PO (Sh.den qtn) :=
 (.ite (qqV (x.1,x.2)&&(!decide (w64 (32-qdh x.2)<0)&&true))
  (.ret (qkv (qld (x.1,x.2),qbb (qz IntKind.i64 (qbb x.1) (w64 (32-qdh x.2))))))
  .fail)
def qvM (_:qc qqT):Bool:=true
def qqC (x:qc qqT):Sh.den qtn:=((wn x.1 / 2 ^ kk x.2+wn x.1 % 2 ^ kk x.2*2 ^ (32-kk x.2):Nat):Int)
theorem qQ7 (m k:Nat) (hm:m<4294967296) (hk:k<32):m / 2 ^ k |||m*2 ^ (32-k) % 4294967296=m / 2 ^ k+m % 2 ^ k*2 ^ (32-k):=by
 have h0:2 ^ 32=2 ^ k*2 ^ (32-k):=by rw[←Nat.pow_add];congr 1;omega
 have h1:m*2 ^ (32-k) % 4294967296=m % 2 ^ k*2 ^ (32-k):=by
  rw[show(4294967296:Nat)=2 ^ 32 from rfl,h0,Nat.mul_mod_mul_right]
 have h2:m / 2 ^ k<2 ^ (32-k):=by
  rw[Nat.div_lt_iff_lt_mul (Nat.two_pow_pos k),Nat.mul_comm,←h0]
  omega
 rw[h1,Nat.or_comm,Nat.mul_comm (m % 2 ^ k),←Nat.two_pow_add_eq_or_of_lt h2,Nat.add_comm]
theorem qIL (x:qc qqT) (_:qvM x=true):(qz9 x).val=some (qqC x):=by
 obtain⟨a,n⟩:=x
 have hk:=qtp n
 have hl:=qdC a
 have e1:w64 (32-(kk n:Int))=((32-kk n:Nat):Int):=by
  rw[qt (by omega) (by omega)];omega
 have hd:decide (w64 (32-(kk n:Int))<0)=false:=qS (by rw[e1];omega)
 have h1:wn a / 2 ^ kk n<4294967296:=Nat.lt_of_le_of_lt (Nat.div_le_self _ _) hl
 show(bif true&&(!decide (w64 (32-(kk n:Int))<0)&&true) then some ((wn ((wn a / 2 ^ kk n:Nat):Int) |||wn ((wn (qz .i64 (wn a:Int) (w64 (32-(kk n:Int)))):Nat):Int):Nat):Int) else none)=some ((wn a / 2 ^ kk n+wn a % 2 ^ kk n*2 ^ (32-kk n):Nat):Int)
 rw[hd,e1,qHM _ _ (by omega),qgu h1,qgu (Nat.mod_lt _ (by omega)),qQ7 _ _ hl hk]
 rfl
abbrev qmG:List Ty:=[(.int .i64),(.int .i64),(.int .i64)]
abbrev qpt:Sh:=Sh.ty (Ty.int IntKind.i64)
def qwM (x:qc qmG):PO (Sh.den qpt) :=
 (.ret (qkv (qbF IntKind.i64 x.2.1 x.1,qeg IntKind.i64 x.2.2 x.1)))
def qsD (_:qc qmG):Bool:=true
def qmV (x:qc qmG):Sh.den qpt:=(((wn x.2.1 &&& wn x.1) |||(wn x.2.2 &&& (4294967295-wn x.1)):Nat):Int)
theorem qAP (x:qc qmG) (_:qsD x=true):(qwM x).val=some (qmV x):=by
 show some _=some _
 rw[qkv,qmV,qNJ,qP2]
abbrev qqP:List Ty:=[(.int .i64),(.int .i64)]
abbrev qs5:Sh:=Sh.ty (Ty.int IntKind.i64)
def qzy (x:qc qqP):PO (Sh.den qs5) :=
 (.ite (qqV (x.1,x.2))
  (.ret (qbF IntKind.i64 (qld (x.1,x.2)) 1))
  .fail)
def qwh (_:qc qqP):Bool:=true
def qoW (x:qc qqP):Sh.den qs5:=((wn x.1 / 2 ^ kk x.2 % 2:Nat):Int)
theorem qJi (x:qc qqP) (_:qwh x=true):(qzy x).val=some (qoW x):=by
 show some _=some _
 simp only[qld,qoW]
 rw[qwu]
 simp
abbrev qhy:List Ty:=[(.int .i64)]
abbrev qj7:Sh:=Sh.ty (Ty.int IntKind.i64)
def qrk (x:qc qhy):PO (Sh.den qj7) :=
 (.ret (w64 (Int.tmod (IntKind.wrap IntKind.u64 x) 4294967296)))
def qng (_:qc qhy):Bool:=true
def qp (x:qc qhy):Sh.den qj7:=(wn x:Int)
theorem qwl (x:qc qhy) (_:qng x=true):(qrk x).val=some (qp x):=by
 show some _=some _
 have h1:(0:Int)≤x % 18446744073709551616:=Int.emod_nonneg _ (by omega)
 rw[qt8,qmh _ _ h1,qSY,qp,qlV]
 exact congrArg some (qt (by omega) (by omega))
abbrev qhi:List Ty:=[(.int .i64)]
abbrev qka:Sh:=Sh.ty (Ty.int IntKind.i64)
def qrh (x:qc qhi):PO (Sh.den qka) :=
 (.ret (w64 (Int.tmod (IntKind.wrap IntKind.u64 x) 32)))
def qnm (_:qc qhi):Bool:=true
def qK (x:qc qhi):Sh.den qka:=(kk x:Int)
theorem qwy (x:qc qhi) (_:qnm x=true):(qrh x).val=some (qK x):=by
 show some _=some _
 have h1:(0:Int)≤x % 18446744073709551616:=Int.emod_nonneg _ (by omega)
 have h2:x % 18446744073709551616 % 32=x % 32:=Int.emod_emod_of_dvd x (by decide)
 rw[qt8,qmh _ _ h1,h2,qK,qMF]
 exact congrArg some (qt (by omega) (by omega))
def qcD:LoopN where
 M:=[0,3,4]
 T:=[5,6,7,8,9,10,11]
 D:=[0,4]
 ss:=[.ty (.int .i64),.ty (.int .i64),.ty (.int .i64)]
 hs:=[]
 es:=[.exit 0]
 σ:=(Ty.den (.int .i64))×(Ty.den (.int .i64))
 x0:=fun x _=>(x.2.1,x.2.2)
 put:=fun x _ s=>((x.1,s.1,s.2),())
 fuel:=fun x _=>Int.toNat x.1+1
 turn:=fun x _ s =>
 (.ite (decide (s.2<x.1))
  (.ret (.on (w64 (s.1*2),w64 (s.2+1))))
  (.ret (.out 0 (s.1,s.2))))
abbrev qgH:List Ty:=[(.int .i64)]
abbrev qjs:Sh:=Sh.ty (Ty.int IntKind.i64)
def qjw (x:qc qgH):PO (Sh.den qjs) :=
 (.opt (LoopN.res qcD (x,1,0) ()) fun p0 =>
  (.ret (p0.2.1)))
def qb5 (x:qc qgH):Bool:=decide ((x:Int)≤62)
def qbg (x:qc qgH):Sh.den qjs:=((2 ^ Int.toNat x:Nat):Int)
theorem qNj (n:Nat) (hn:n≤62):qcE (qcD.turn ((n:Int),1,0) ()) (n+1) (1,0)=some (0,((2 ^ n:Nat):Int),(n:Int)):=by
 refine qgC (σ:=Int×Int) (fun i=>(((2 ^ i:Nat):Int),(i:Int))) (0,((2 ^ n:Nat):Int),(n:Int)) (n:=n) (fun i hi=>?_) ?_ n 0 (by omega) _ (by omega)
 ·have h1:decide ((i:Int)<(n:Int))=true:=qJ (by omega)
  have h2:2 ^ (i+1)≤2 ^ 62:=qeM (by omega)
  have h3:((2 ^ i:Nat):Int)*2=((2 ^ (i+1):Nat):Int):=by rw[Nat.pow_succ];simp
  simp only[qcD,PO.val,h1,cond_true]
  rw[h3]
  generalize 2 ^ (i+1)=q at h2 ⊢
  rw[qt (by omega) (by omega),qt (by omega) (by omega)]
  rfl
 ·simp only[qcD,PO.val,qS (show ¬(n:Int)<(n:Int) by omega),cond_false]
theorem qNN (x:Int) (hx:x≤62):(qjw x).val=some (((2 ^ Int.toNat x:Nat):Int)):=by
 unfold qjw PO.val
 by_cases hneg:x<0
 ·have e:Int.toNat x=0:=by omega
  have:LoopN.res qcD (x,1,0) ()=some (0,(1:Int),(0:Int)):=by
   show qcE _ (Int.toNat x+1) (1,0)=_
   rw[e]
   refine qbk ?_
   simp only[qcD,PO.val,qS (show ¬(0:Int)<x by omega),cond_false]
  rw[this,e]
  rfl
 ·obtain⟨n,rfl⟩:∃n:Nat,x=(n:Int):=⟨Int.toNat x,by omega⟩
  have:LoopN.res qcD ((n:Int),1,0) ()=some (0,((2 ^ n:Nat):Int),(n:Int)):=by
   show qcE _ (Int.toNat (n:Int)+1) (1,0)=_
   rw[Int.toNat_natCast]
   exact qNj n (by omega)
  rw[this]
  rfl
theorem qvG (x:qc qgH) (h:qb5 x=true):(qjw x).val=some (qbg x):=qNN x (of_decide_eq_true h)
end Go.Av
end
section
namespace Go.Av
open Go
abbrev qX:Ty:=.pair (.int .i64) (.pair (.int .i64) (.pair (.int .i64) (.pair (.int .i64) .unit)))
theorem qrs {k:Nat} (h:k<9223372036854775808):w64 (k:Int)=k:=qt (by omega) (by omega)
def qqu (n from_ many at_:Int):Nat:=(n / (2 ^ from_.toNat:Nat) % (2 ^ many.toNat:Nat)).toNat*2 ^ at_.toNat
def qt2 (p:qX.den):Bool:=(decide (0≤p.2.1)&&decide (p.2.1<64))&&((decide (0≤p.2.2.1)&&decide (p.2.2.1≤32))&&(decide (0≤p.2.2.2.1)&&decide (p.2.2.2.1≤16)))
def qq9 (p:qX.den):Nat:=qqu p.1 p.2.1 p.2.2.1 p.2.2.2.1
theorem qtz {a b:Nat} (ha:a<9223372036854775808) (hb:b<9223372036854775808):bor .i64 (a:Int) (b:Int)=((a |||b:Nat):Int):=by
 show w64 (BitVec.ofInt 64 (a:Int) |||BitVec.ofInt 64 (b:Int)).toNat=_
 rw[BitVec.toNat_or,qnZ (by omega),qnZ (by omega)]
 have:a |||b<2 ^ 63:=Nat.or_lt_two_pow ha hb
 exact qt (by omega) (by omega)
theorem qm7 (n:Int) (k:Nat):0≤n % (2 ^ k:Nat)∧n % (2 ^ k:Nat)<(2 ^ k:Nat):=by
 have:=Nat.two_pow_pos k
 exact⟨Int.emod_nonneg _ (by omega),Int.emod_lt_of_pos _ (by omega)⟩
theorem qJ1 (n f:Int) {m a:Nat} (hm:m≤32) (ha:a≤16):qqu n f (m:Int) (a:Int)<281474976710656:=by
 unfold qqu
 rw[Int.toNat_natCast,Int.toNat_natCast]
 have h:=qm7 (n / (2 ^ f.toNat:Nat)) m
 have h1:(n / (2 ^ f.toNat:Nat) % (2 ^ m:Nat)).toNat<2 ^ m:=by omega
 have h2:2 ^ m≤2 ^ 32:=qeM hm
 have h3:2 ^ a≤2 ^ 16:=qeM ha
 have h4:=Nat.mul_lt_mul_of_lt_of_le (Nat.lt_of_lt_of_le h1 h2) h3 (by omega)
 exact h4
theorem qQW (n:Int) {f m a:Nat} (hf:f<64) (hm:m≤32) (ha:a≤16):qz .i64 (qbF .i64 (q8 .i64 n (f:Int)) (w64 (qz .i64 1 (m:Int)-1))) (a:Int)=(qqu n (f:Int) (m:Int) (a:Int):Int):=by
 have hl:=qJ1 n (f:Int) hm ha
 have h1:2 ^ m≤2 ^ 32:=qeM hm
 have h2:qz .i64 1 (m:Int)=((2 ^ m:Nat):Int):=by
  rw[qrH _ _ (by omega),Int.one_mul,show(2:Int) ^ m=((2 ^ m:Nat):Int) by simp]
  exact qrs (by omega)
 have hp:=Nat.two_pow_pos m
 have h3:w64 (((2 ^ m:Nat):Int)-1)=((2 ^ m:Nat):Int)-1:=by
  generalize 2 ^ m=q at *
  exact qt (by omega) (by omega)
 rw[h2,h3,qog _ _ hf,qjL _ _ (by omega),qrH _ _ (by omega)]
 unfold qqu at hl ⊢
 rw[Int.toNat_natCast,Int.toNat_natCast,Int.toNat_natCast] at *
 have h:=qm7 (n / (2 ^ f:Nat)) m
 obtain⟨q,hq⟩:∃q:Nat,n / (2 ^ f:Nat) % (2 ^ m:Nat)=(q:Int):=⟨(n / (2 ^ f:Nat) % (2 ^ m:Nat)).toNat,by omega⟩
 rw[hq] at hl ⊢
 rw[Int.toNat_natCast] at hl ⊢
 rw[show(q:Int)*2 ^ a=((q*2 ^ a:Nat):Int) by simp]
 exact qt (by omega) (by omega)
theorem qfg (p:qX.den) (h:qt2 p=true):qz .i64 (qbF .i64 (q8 .i64 p.1 p.2.1) (w64 (qz .i64 1 p.2.2.1-1))) p.2.2.2.1=(qq9 p:Int)∧qq9 p<281474976710656∧decide (p.2.1<0)=false∧decide (p.2.2.1<0)=false∧decide (p.2.2.2.1<0)=false:=by
 obtain⟨n,f,m,a,u⟩:=p
 simp only[qt2,Bool.and_eq_true,decide_eq_true_eq] at h
 obtain⟨⟨h1,h2⟩,⟨h3,h4⟩,h5,h6⟩:=h
 dsimp only[Ty.den] at *
 obtain⟨f,rfl⟩:=Int.eq_ofNat_of_zero_le h1
 obtain⟨m,rfl⟩:=Int.eq_ofNat_of_zero_le h3
 obtain⟨a,rfl⟩:=Int.eq_ofNat_of_zero_le h5
 exact⟨qQW n (by omega) (by omega) (by omega),qJ1 n _ (by omega) (by omega),qS (by omega),qS (by omega),qS (by omega)⟩
theorem qhI {b:Nat} (p:qX.den) (h:qt2 p=true) (hb:b<281474976710656):bor .i64 (b:Int) (qz .i64 (qbF .i64 (q8 .i64 p.1 p.2.1) (w64 (qz .i64 1 p.2.2.1-1))) p.2.2.2.1)=((b |||qq9 p:Nat):Int)∧b |||qq9 p<281474976710656:=by
 obtain⟨h1,h2,_⟩:=qfg p h
 exact⟨by rw[h1,qtz (by omega) (by omega)],Nat.or_lt_two_pow (n:=48) hb h2⟩
abbrev qpd:List Ty:=[(.int .i64),(.sl qX)]
abbrev qrW:Sh:=Sh.ty (Ty.int IntKind.i64)
def qjx (x:qc qpd):PO (Sh.den qrW) :=
 (.ite (decide (0<qg x.2))
  (.ite (inRange 0 (List.length x.2))
  (.ite (!decide ((List.getD x.2 (Int.toNat 0) (Ty.dflt qX)).2.1<0)&&(!decide ((List.getD x.2 (Int.toNat 0) (Ty.dflt qX)).2.2.1<0)&&!decide ((List.getD x.2 (Int.toNat 0) (Ty.dflt qX)).2.2.2.1<0)))
   (.ite (decide (1<qg x.2))
   (.ite (inRange 1 (List.length x.2))
    (.ite (!decide ((List.getD x.2 (Int.toNat 1) (Ty.dflt qX)).2.1<0)&&(!decide ((List.getD x.2 (Int.toNat 1) (Ty.dflt qX)).2.2.1<0)&&!decide ((List.getD x.2 (Int.toNat 1) (Ty.dflt qX)).2.2.2.1<0)))
    (.ite (decide (2<qg x.2))
     (.ite (inRange 2 (List.length x.2))
     (.ite (!decide ((List.getD x.2 (Int.toNat 2) (Ty.dflt qX)).2.1<0)&&(!decide ((List.getD x.2 (Int.toNat 2) (Ty.dflt qX)).2.2.1<0)&&!decide ((List.getD x.2 (Int.toNat 2) (Ty.dflt qX)).2.2.2.1<0)))
      (.ite (decide (3<qg x.2))
      (.ite (inRange 3 (List.length x.2))
       (.ite (!decide ((List.getD x.2 (Int.toNat 3) (Ty.dflt qX)).2.1<0)&&(!decide ((List.getD x.2 (Int.toNat 3) (Ty.dflt qX)).2.2.1<0)&&!decide ((List.getD x.2 (Int.toNat 3) (Ty.dflt qX)).2.2.2.1<0)))
       (.ite (decide (4<qg x.2))
        (.ite (inRange 4 (List.length x.2))
        (.ite (!decide ((List.getD x.2 (Int.toNat 4) (Ty.dflt qX)).2.1<0)&&(!decide ((List.getD x.2 (Int.toNat 4) (Ty.dflt qX)).2.2.1<0)&&!decide ((List.getD x.2 (Int.toNat 4) (Ty.dflt qX)).2.2.2.1<0)))
         (.ite (decide (5<qg x.2))
         (.ite (inRange 5 (List.length x.2))
          (.ite (!decide ((List.getD x.2 (Int.toNat 5) (Ty.dflt qX)).2.1<0)&&(!decide ((List.getD x.2 (Int.toNat 5) (Ty.dflt qX)).2.2.1<0)&&!decide ((List.getD x.2 (Int.toNat 5) (Ty.dflt qX)).2.2.2.1<0)))
          .fail
          .fail)
          .fail)
         (.ret (bor IntKind.i64 (bor IntKind.i64 (bor IntKind.i64 (bor IntKind.i64 (bor IntKind.i64 x.1 (qz IntKind.i64 (qbF IntKind.i64 (q8 IntKind.i64 (List.getD x.2 (Int.toNat 0) (Ty.dflt qX)).1 (List.getD x.2 (Int.toNat 0) (Ty.dflt qX)).2.1) (w64 (qz IntKind.i64 1 (List.getD x.2 (Int.toNat 0) (Ty.dflt qX)).2.2.1-1))) (List.getD x.2 (Int.toNat 0) (Ty.dflt qX)).2.2.2.1)) (qz IntKind.i64 (qbF IntKind.i64 (q8 IntKind.i64 (List.getD x.2 (Int.toNat 1) (Ty.dflt qX)).1 (List.getD x.2 (Int.toNat 1) (Ty.dflt qX)).2.1) (w64 (qz IntKind.i64 1 (List.getD x.2 (Int.toNat 1) (Ty.dflt qX)).2.2.1-1))) (List.getD x.2 (Int.toNat 1) (Ty.dflt qX)).2.2.2.1)) (qz IntKind.i64 (qbF IntKind.i64 (q8 IntKind.i64 (List.getD x.2 (Int.toNat 2) (Ty.dflt qX)).1 (List.getD x.2 (Int.toNat 2) (Ty.dflt qX)).2.1) (w64 (qz IntKind.i64 1 (List.getD x.2 (Int.toNat 2) (Ty.dflt qX)).2.2.1-1))) (List.getD x.2 (Int.toNat 2) (Ty.dflt qX)).2.2.2.1)) (qz IntKind.i64 (qbF IntKind.i64 (q8 IntKind.i64 (List.getD x.2 (Int.toNat 3) (Ty.dflt qX)).1 (List.getD x.2 (Int.toNat 3) (Ty.dflt qX)).2.1) (w64 (qz IntKind.i64 1 (List.getD x.2 (Int.toNat 3) (Ty.dflt qX)).2.2.1-1))) (List.getD x.2 (Int.toNat 3) (Ty.dflt qX)).2.2.2.1)) (qz IntKind.i64 (qbF IntKind.i64 (q8 IntKind.i64 (List.getD x.2 (Int.toNat 4) (Ty.dflt qX)).1 (List.getD x.2 (Int.toNat 4) (Ty.dflt qX)).2.1) (w64 (qz IntKind.i64 1 (List.getD x.2 (Int.toNat 4) (Ty.dflt qX)).2.2.1-1))) (List.getD x.2 (Int.toNat 4) (Ty.dflt qX)).2.2.2.1))))
         .fail)
        .fail)
        (.ret (bor IntKind.i64 (bor IntKind.i64 (bor IntKind.i64 (bor IntKind.i64 x.1 (qz IntKind.i64 (qbF IntKind.i64 (q8 IntKind.i64 (List.getD x.2 (Int.toNat 0) (Ty.dflt qX)).1 (List.getD x.2 (Int.toNat 0) (Ty.dflt qX)).2.1) (w64 (qz IntKind.i64 1 (List.getD x.2 (Int.toNat 0) (Ty.dflt qX)).2.2.1-1))) (List.getD x.2 (Int.toNat 0) (Ty.dflt qX)).2.2.2.1)) (qz IntKind.i64 (qbF IntKind.i64 (q8 IntKind.i64 (List.getD x.2 (Int.toNat 1) (Ty.dflt qX)).1 (List.getD x.2 (Int.toNat 1) (Ty.dflt qX)).2.1) (w64 (qz IntKind.i64 1 (List.getD x.2 (Int.toNat 1) (Ty.dflt qX)).2.2.1-1))) (List.getD x.2 (Int.toNat 1) (Ty.dflt qX)).2.2.2.1)) (qz IntKind.i64 (qbF IntKind.i64 (q8 IntKind.i64 (List.getD x.2 (Int.toNat 2) (Ty.dflt qX)).1 (List.getD x.2 (Int.toNat 2) (Ty.dflt qX)).2.1) (w64 (qz IntKind.i64 1 (List.getD x.2 (Int.toNat 2) (Ty.dflt qX)).2.2.1-1))) (List.getD x.2 (Int.toNat 2) (Ty.dflt qX)).2.2.2.1)) (qz IntKind.i64 (qbF IntKind.i64 (q8 IntKind.i64 (List.getD x.2 (Int.toNat 3) (Ty.dflt qX)).1 (List.getD x.2 (Int.toNat 3) (Ty.dflt qX)).2.1) (w64 (qz IntKind.i64 1 (List.getD x.2 (Int.toNat 3) (Ty.dflt qX)).2.2.1-1))) (List.getD x.2 (Int.toNat 3) (Ty.dflt qX)).2.2.2.1))))
       .fail)
       .fail)
      (.ret (bor IntKind.i64 (bor IntKind.i64 (bor IntKind.i64 x.1 (qz IntKind.i64 (qbF IntKind.i64 (q8 IntKind.i64 (List.getD x.2 (Int.toNat 0) (Ty.dflt qX)).1 (List.getD x.2 (Int.toNat 0) (Ty.dflt qX)).2.1) (w64 (qz IntKind.i64 1 (List.getD x.2 (Int.toNat 0) (Ty.dflt qX)).2.2.1-1))) (List.getD x.2 (Int.toNat 0) (Ty.dflt qX)).2.2.2.1)) (qz IntKind.i64 (qbF IntKind.i64 (q8 IntKind.i64 (List.getD x.2 (Int.toNat 1) (Ty.dflt qX)).1 (List.getD x.2 (Int.toNat 1) (Ty.dflt qX)).2.1) (w64 (qz IntKind.i64 1 (List.getD x.2 (Int.toNat 1) (Ty.dflt qX)).2.2.1-1))) (List.getD x.2 (Int.toNat 1) (Ty.dflt qX)).2.2.2.1)) (qz IntKind.i64 (qbF IntKind.i64 (q8 IntKind.i64 (List.getD x.2 (Int.toNat 2) (Ty.dflt qX)).1 (List.getD x.2 (Int.toNat 2) (Ty.dflt qX)).2.1) (w64 (qz IntKind.i64 1 (List.getD x.2 (Int.toNat 2) (Ty.dflt qX)).2.2.1-1))) (List.getD x.2 (Int.toNat 2) (Ty.dflt qX)).2.2.2.1))))
      .fail)
     .fail)
     (.ret (bor IntKind.i64 (bor IntKind.i64 x.1 (qz IntKind.i64 (qbF IntKind.i64 (q8 IntKind.i64 (List.getD x.2 (Int.toNat 0) (Ty.dflt qX)).1 (List.getD x.2 (Int.toNat 0) (Ty.dflt qX)).2.1) (w64 (qz IntKind.i64 1 (List.getD x.2 (Int.toNat 0) (Ty.dflt qX)).2.2.1-1))) (List.getD x.2 (Int.toNat 0) (Ty.dflt qX)).2.2.2.1)) (qz IntKind.i64 (qbF IntKind.i64 (q8 IntKind.i64 (List.getD x.2 (Int.toNat 1) (Ty.dflt qX)).1 (List.getD x.2 (Int.toNat 1) (Ty.dflt qX)).2.1) (w64 (qz IntKind.i64 1 (List.getD x.2 (Int.toNat 1) (Ty.dflt qX)).2.2.1-1))) (List.getD x.2 (Int.toNat 1) (Ty.dflt qX)).2.2.2.1))))
    .fail)
    .fail)
   (.ret (bor IntKind.i64 x.1 (qz IntKind.i64 (qbF IntKind.i64 (q8 IntKind.i64 (List.getD x.2 (Int.toNat 0) (Ty.dflt qX)).1 (List.getD x.2 (Int.toNat 0) (Ty.dflt qX)).2.1) (w64 (qz IntKind.i64 1 (List.getD x.2 (Int.toNat 0) (Ty.dflt qX)).2.2.1-1))) (List.getD x.2 (Int.toNat 0) (Ty.dflt qX)).2.2.2.1))))
   .fail)
  .fail)
  (.ret (x.1)))
def qbd (x:qc qpd):Bool:=(decide ((0:Int)≤x.1)&&decide ((x.1:Int)<281474976710656))&&(decide (List.length x.2≤5)&&List.all x.2 qt2)
def qq (x:qc qpd):Sh.den qrW:=((List.foldl (fun b p=>b |||qq9 p) (Int.toNat x.1) x.2:Nat):Int)
theorem qHv (x:qc qpd) (h:qbd x=true):(qjx x).val=some (qq x):=by
 obtain⟨n,l⟩:=x
 simp only[qbd,Bool.and_eq_true,decide_eq_true_eq] at h
 obtain⟨⟨h1,h2⟩,h3,h4⟩:=h
 dsimp only[Ty.den] at *
 obtain⟨b,rfl⟩:=Int.eq_ofNat_of_zero_le h1
 unfold qq
 match l,h3,h4 with
 |[],_,_=>simp[qjx,PO.val,qg]
 |[p],_,h4 =>
  simp only[List.all_cons,List.all_nil,Bool.and_true] at h4
  obtain⟨e1,l1⟩:=qhI p h4 (show b<281474976710656 by omega)
  obtain⟨_,_,p1,p2,p3⟩:=qfg p h4
  simp[qjx,PO.val,qg,inRange,p1,p2,p3,e1]
 |[p,q],_,h4 =>
  simp only[List.all_cons,List.all_nil,Bool.and_true,Bool.and_eq_true] at h4
  obtain⟨hp,hq⟩:=h4
  obtain⟨e1,l1⟩:=qhI p hp (show b<281474976710656 by omega)
  obtain⟨_,_,p1,p2,p3⟩:=qfg p hp
  obtain⟨e2,l2⟩:=qhI q hq l1
  obtain⟨_,_,q1,q2,q3⟩:=qfg q hq
  simp[qjx,PO.val,qg,inRange,p1,p2,p3,e1,q1,q2,q3,e2]
 |[p,q,r],_,h4 =>
  simp only[List.all_cons,List.all_nil,Bool.and_true,Bool.and_eq_true] at h4
  obtain⟨hp,hq,hr⟩:=h4
  obtain⟨e1,l1⟩:=qhI p hp (show b<281474976710656 by omega)
  obtain⟨_,_,p1,p2,p3⟩:=qfg p hp
  obtain⟨e2,l2⟩:=qhI q hq l1
  obtain⟨_,_,q1,q2,q3⟩:=qfg q hq
  obtain⟨e3,l3⟩:=qhI r hr l2
  obtain⟨_,_,r1,r2,r3⟩:=qfg r hr
  simp[qjx,PO.val,qg,inRange,p1,p2,p3,e1,q1,q2,q3,e2,r1,r2,r3,e3]
 |[p,q,r,s],_,h4 =>
  simp only[List.all_cons,List.all_nil,Bool.and_true,Bool.and_eq_true] at h4
  obtain⟨hp,hq,hr,hs⟩:=h4
  obtain⟨e1,l1⟩:=qhI p hp (show b<281474976710656 by omega)
  obtain⟨_,_,p1,p2,p3⟩:=qfg p hp
  obtain⟨e2,l2⟩:=qhI q hq l1
  obtain⟨_,_,q1,q2,q3⟩:=qfg q hq
  obtain⟨e3,l3⟩:=qhI r hr l2
  obtain⟨_,_,r1,r2,r3⟩:=qfg r hr
  obtain⟨e4,l4⟩:=qhI s hs l3
  obtain⟨_,_,s1,s2,s3⟩:=qfg s hs
  simp[qjx,PO.val,qg,inRange,p1,p2,p3,e1,q1,q2,q3,e2,r1,r2,r3,e3,s1,s2,s3,e4]
 |[p,q,r,s,t],_,h4 =>
  simp only[List.all_cons,List.all_nil,Bool.and_true,Bool.and_eq_true] at h4
  obtain⟨hp,hq,hr,hs,ht⟩:=h4
  obtain⟨e1,l1⟩:=qhI p hp (show b<281474976710656 by omega)
  obtain⟨_,_,p1,p2,p3⟩:=qfg p hp
  obtain⟨e2,l2⟩:=qhI q hq l1
  obtain⟨_,_,q1,q2,q3⟩:=qfg q hq
  obtain⟨e3,l3⟩:=qhI r hr l2
  obtain⟨_,_,r1,r2,r3⟩:=qfg r hr
  obtain⟨e4,l4⟩:=qhI s hs l3
  obtain⟨_,_,s1,s2,s3⟩:=qfg s hs
  obtain⟨e5,l5⟩:=qhI t ht l4
  obtain⟨_,_,t1,t2,t3⟩:=qfg t ht
  simp[qjx,PO.val,qg,inRange,p1,p2,p3,e1,q1,q2,q3,e2,r1,r2,r3,e3,s1,s2,s3,e4,t1,t2,t3,e5]
 |_::_::_::_::_::_::_,h3,_=>simp at h3
abbrev qkV:List Ty:=[(.int .i64),q9,(.int .i64)]
abbrev qnz:Sh:=Sh.ty qhN
def qA (x:qc qkV):PO (Sh.den qnz) :=
 (.ite (qbd (0,[(x.2.1.2.2.2.2.2.1,2,3,12,()),(x.2.1.2.1,0,4,8,()),(x.2.1.2.2.2.2.2.1,0,2,6,()),(x.2.2,0,2,4,()),(x.2.1.2.2.2.1,0,4,0,())]))
  (.ite (qbd (x.1,[(x.2.1.2.2.1,0,4,0,())]))
  (.ret ((qq (x.1,[(x.2.1.2.2.1,0,4,0,())]),qq (0,[(x.2.1.2.2.2.2.2.1,2,3,12,()),(x.2.1.2.1,0,4,8,()),(x.2.1.2.2.2.2.2.1,0,2,6,()),(x.2.2,0,2,4,()),(x.2.1.2.2.2.1,0,4,0,())]),true,())))
  .fail)
  .fail)
def qc4 (x:qc qkV):Bool:=(qA x).val.isSome
def qcw (x:qc qkV):Sh.den qnz:=(qA x).qP default
theorem qzg (x:qc qkV) (h:qc4 x=true):(qA x).val=some (qcw x):=PO.qb4 default h
abbrev qnK:List Ty:=[(.int .i64),q9]
abbrev qqg:Sh:=Sh.ty qhN
def qeJ (x:qc qnK):PO (Sh.den qqg) :=
 (.ite (qbd (x.1,[(x.2.2.2.2.2.2.1,11,1,10,()),(x.2.2.2.2.2.2.1,12,4,0,())]))
  (.ite (qbd (0,[(x.2.2.2.2.2.2.1,8,3,12,()),(x.2.2.1,0,4,8,()),(x.2.2.2.2.2.2.1,0,8,0,())]))
  (.ret ((qq (x.1,[(x.2.2.2.2.2.2.1,11,1,10,()),(x.2.2.2.2.2.2.1,12,4,0,())]),qq (0,[(x.2.2.2.2.2.2.1,8,3,12,()),(x.2.2.1,0,4,8,()),(x.2.2.2.2.2.2.1,0,8,0,())]),true,())))
  .fail)
  .fail)
def qnW (x:qc qnK):Bool:=(qeJ x).val.isSome
def qnO (x:qc qnK):Sh.den qqg:=(qeJ x).qP default
theorem qDx (x:qc qnK) (h:qnW x=true):(qeJ x).val=some (qnO x):=PO.qb4 default h
abbrev qm0:List Ty:=[(.int .i64),(.int .i64),(.int .i64)]
abbrev qpE:Sh:=Sh.ty qhN
def qbY (x:qc qm0):PO (Sh.den qpE) :=
 (.ite (qbd (x.1,[(x.2.1,0,3,0,()),(x.2.2,0,3,3,())]))
  (.ret ((qq (x.1,[(x.2.1,0,3,0,()),(x.2.2,0,3,3,())]),0,false,())))
  .fail)
def qg4 (x:qc qm0):Bool:=(qbY x).val.isSome
def qg6 (x:qc qm0):Sh.den qpE:=(qbY x).qP default
theorem qBn (x:qc qm0) (h:qg4 x=true):(qbY x).val=some (qg6 x):=PO.qb4 default h
abbrev qn6:List Ty:=[q9]
abbrev qrd:Sh:=Sh.ty qhN
def qef (x:qc qn6):PO (Sh.den qrd) :=
 (.ite (qbd (0,[(x.2.2.2.2.2.1,1,11,0,())]))
  (.ite (x.1==25)
  (.ite (qbd (61440,[(qbF IntKind.i64 (q8 IntKind.i64 x.2.2.2.2.2.1 24) 1,0,1,10,()),(x.2.2.2.2.2.2.1,0,4,6,()),(x.2.2.2.2.2.1,12,6,0,())]))
   (.ite (qbd (bor IntKind.i64 (qq (0,[(x.2.2.2.2.2.1,1,11,0,())])) 32768,[(x.2.2.2.2.2.1,18,1,13,()),(x.2.2.2.2.2.1,19,1,11,())]))
   (.ret ((qq (61440,[(qbF IntKind.i64 (q8 IntKind.i64 x.2.2.2.2.2.1 24) 1,0,1,10,()),(x.2.2.2.2.2.2.1,0,4,6,()),(x.2.2.2.2.2.1,12,6,0,())]),qq (bor IntKind.i64 (qq (0,[(x.2.2.2.2.2.1,1,11,0,())])) 32768,[(x.2.2.2.2.2.1,18,1,13,()),(x.2.2.2.2.2.1,19,1,11,())]),true,())))
   .fail)
   .fail)
  (.ite (qbd (61440,[(qbF IntKind.i64 (q8 IntKind.i64 x.2.2.2.2.2.1 24) 1,0,1,10,()),(x.2.2.2.2.2.1,12,10,0,())]))
   (.ite (qbd (bor IntKind.i64 (qq (0,[(x.2.2.2.2.2.1,1,11,0,())])) 36864,[(qh3 IntKind.i64 (ql2 IntKind.i64 (q8 IntKind.i64 x.2.2.2.2.2.1 23)) (qbF IntKind.i64 (q8 IntKind.i64 x.2.2.2.2.2.1 24) 1),0,1,13,()),(qh3 IntKind.i64 (ql2 IntKind.i64 (q8 IntKind.i64 x.2.2.2.2.2.1 22)) (qbF IntKind.i64 (q8 IntKind.i64 x.2.2.2.2.2.1 24) 1),0,1,11,())]))
   (.ret ((qq (61440,[(qbF IntKind.i64 (q8 IntKind.i64 x.2.2.2.2.2.1 24) 1,0,1,10,()),(x.2.2.2.2.2.1,12,10,0,())]),qq (bor IntKind.i64 (qq (0,[(x.2.2.2.2.2.1,1,11,0,())])) 36864,[(qh3 IntKind.i64 (ql2 IntKind.i64 (q8 IntKind.i64 x.2.2.2.2.2.1 23)) (qbF IntKind.i64 (q8 IntKind.i64 x.2.2.2.2.2.1 24) 1),0,1,13,()),(qh3 IntKind.i64 (ql2 IntKind.i64 (q8 IntKind.i64 x.2.2.2.2.2.1 22)) (qbF IntKind.i64 (q8 IntKind.i64 x.2.2.2.2.2.1 24) 1),0,1,11,())]),true,())))
   .fail)
   .fail))
  .fail)
def qq6 (x:qc qn6):Bool:=(qef x).val.isSome
def qqN (x:qc qn6):Sh.den qrd:=(qef x).qP default
theorem qCe (x:qc qn6) (h:qq6 x=true):(qef x).val=some (qqN x):=PO.qb4 default h
abbrev qlO:List Ty:=[q9]
abbrev qoN:Sh:=Sh.ty qhN
def qW (x:qc qlO):PO (Sh.den qoN) :=
 (.ite (x.1==16)
  (.ite (qc4 (64256,x,0))
  (.ret (((qcw (64256,x,0)).1,bor IntKind.i64 (qcw (64256,x,0)).2.1 61440,(qcw (64256,x,0)).2.2)))
  .fail)
  (.ite (x.1==17)
  (.ret ((bor IntKind.i64 64416 x.2.2.1,bor IntKind.i64 (bor IntKind.i64 (qz IntKind.i64 x.2.1 12) (qz IntKind.i64 x.2.2.2.2.1 8)) x.2.2.2.1,true,())))
  (.ite (x.1==18)
   (.ite (qbd (w64 (w64 (x.2.2.2.2.2.1+x.2.2.2.2.1)-1),[(x.2.2.2.2.2.1,2,3,12,()),(x.2.1,0,4,8,()),(x.2.2.2.2.2.1,0,2,6,())]))
   (.ret ((bor IntKind.i64 62304 x.2.2.1,qq (w64 (w64 (x.2.2.2.2.2.1+x.2.2.2.2.1)-1),[(x.2.2.2.2.2.1,2,3,12,()),(x.2.1,0,4,8,()),(x.2.2.2.2.2.1,0,2,6,())]),true,())))
   .fail)
   (.ite (x.1==19)
   (.ite (qg4 (26624,x.2.1,x.2.2.1))
    (.ret (qg6 (26624,x.2.1,x.2.2.1)))
    .fail)
   (.ite (x.1==20)
    (.ite (qg4 (24576,x.2.1,x.2.2.1))
    (.ret (qg6 (24576,x.2.1,x.2.2.1)))
    .fail)
    (.ite (x.1==21)
    (.ite (qg4 (30720,x.2.1,x.2.2.1))
     (.ret (qg6 (30720,x.2.1,x.2.2.1)))
     .fail)
    (.ite (x.1==22)
     (.ite (qg4 (28672,x.2.1,x.2.2.1))
     (.ret (qg6 (28672,x.2.1,x.2.2.1)))
     .fail)
     (.ite (x.1==23)
     (.ite (qg4 (17024,x.2.2.1,x.2.2.2.1))
      (.ret (qg6 (17024,x.2.2.1,x.2.2.2.1)))
      .fail)
     (.ite (x.2.2.2.2.2.2.2.1)
      (.ite (qq6 x)
      (.ret (qqN x))
      .fail)
      (.ite (x.1==24)
      (.ite (qbd (57344,[(x.2.2.2.2.2.1,1,11,0,())]))
       (.ret ((qq (57344,[(x.2.2.2.2.2.1,1,11,0,())]),0,false,())))
       .fail)
      (.ite (qbd (53248,[(x.2.2.2.2.2.2.1,0,4,8,()),(x.2.2.2.2.2.1,1,8,0,())]))
       (.ret ((qq (53248,[(x.2.2.2.2.2.2.1,0,4,8,()),(x.2.2.2.2.2.1,1,8,0,())]),0,false,())))
       .fail)))))))))))
def qov (x:qc qlO):Bool:=(qW x).val.isSome
def qoJ (x:qc qlO):Sh.den qoN:=(qW x).qP default
theorem qz5 (x:qc qlO) (h:qov x=true):(qW x).val=some (qoJ x):=PO.qb4 default h
abbrev qn1:List Ty:=[q9]
abbrev qqQ:Sh:=Sh.ty qhN
def qU (x:qc qn1):PO (Sh.den qqQ) :=
 (.ite (x.1==1)
  (.ret ((48896,0,false,())))
  (.ite (x.1==2)
  (.ret ((bor IntKind.i64 48640 x.2.2.2.2.2.1,0,false,())))
  (.ite (x.1==3)
   (.ite (qnW (62016,x))
   (.ret (qnO (62016,x)))
   .fail)
   (.ite (x.1==4)
   (.ite (qnW (62144,x))
    (.ret (qnO (62144,x)))
    .fail)
   (.ite (bif x.1==5 then x.1==5 else bif x.1==6 then x.1==6 else bif x.1==7 then x.1==7 else x.1==8)
    (.ite (qc4 (59983,x,w64 (x.1-5)))
    (.ret (qcw (59983,x,w64 (x.1-5))))
    .fail)
    (.ite (x.1==9)
    (.ite (qc4 (60015,x,0))
     (.ret (qcw (60015,x,0)))
     .fail)
    (.ite (x.1==10)
     (.ite (qc4 (59904,x,0))
     (.ret (qcw (59904,x,0)))
     .fail)
     (.ite (x.1==11)
     (.ite (qc4 (59936,x,0))
      (.ret (qcw (59936,x,0)))
      .fail)
     (.ite (x.1==12)
      (.ite (qc4 (59968,x,0))
      (.ret (qcw (59968,x,0)))
      .fail)
      (.ite (x.1==13)
      (.ite (qc4 (60032,x,0))
       (.ret (qcw (60032,x,0)))
       .fail)
      (.ite (x.1==14)
       (.ite (qc4 (60160,x,0))
       (.ret (qcw (60160,x,0)))
       .fail)
       (.ite (x.1==15)
       (.ite (qc4 (60320,x,0))
        (.ret (qcw (60320,x,0)))
        .fail)
       (.ite (qov x)
        (.ret (qoJ x))
        .fail)))))))))))))
def qq0 (x:qc qn1):Bool:=(qU x).val.isSome
def qqH (x:qc qn1):Sh.den qqQ:=(qU x).qP default
theorem qCR (x:qc qn1) (h:qq0 x=true):(qU x).val=some (qqH x):=PO.qb4 default h
end Go.Av
end
section
namespace Go.Av
open Go
def qkE (op:Int) (w:Bool):Bool:=w||(decide (3≤op)&&decide (op≤18))
theorem qop (b:Nat) (l:List qX.den) (hb:b<281474976710656) (hl:(decide (List.length l≤5)&&List.all l qt2)=true):qbd ((b:Int),l)=true:=by
 have h1:decide ((0:Int)≤(b:Int))=true:=qJ (by omega)
 have h2:decide ((b:Int)<281474976710656)=true:=qJ (by omega)
 show((decide ((0:Int)≤(b:Int))&&decide ((b:Int)<281474976710656))&&(decide (List.length l≤5)&&List.all l qt2))=true
 rw[h1,h2,hl]
 rfl
theorem qBo (l:List qX.den) (hl:(decide (List.length l≤5)&&List.all l qt2)=true):qbd (0,l)=true:=qop 0 l (by omega) hl
section
variable (first:Nat) (op rd rn rm ra imm cond:Int) (w:Bool) (kind:Int)
theorem qeT (h:first<281474976710656):(qA ((first:Int),(op,rd,rn,rm,ra,imm,cond,w,()),kind)).val =
  some (qq ((first:Int),[(rn,0,4,0,())]),qq (0,[(imm,2,3,12,()),(rd,0,4,8,()),(imm,0,2,6,()),(kind,0,2,4,()),(rm,0,4,0,())]),true,()):=by
 have h1:qbd ((first:Int),[(rn,0,4,0,())])=true:=qop first _ h rfl
 have h2:qbd (0,[(imm,2,3,12,()),(rd,0,4,8,()),(imm,0,2,6,()),(kind,0,2,4,()),(rm,0,4,0,())])=true:=qBo _ rfl
 show(bif qbd (0,[(imm,2,3,12,()),(rd,0,4,8,()),(imm,0,2,6,()),(kind,0,2,4,()),(rm,0,4,0,())]) then(bif qbd ((first:Int),[(rn,0,4,0,())]) then _ else _) else _)=_
 rw[h1,h2]
 rfl
theorem qHB (h:first<281474976710656):(qeJ ((first:Int),(op,rd,rn,rm,ra,imm,cond,w,()))).val =
  some (qq ((first:Int),[(imm,11,1,10,()),(imm,12,4,0,())]),qq (0,[(imm,8,3,12,()),(rd,0,4,8,()),(imm,0,8,0,())]),true,()):=by
 have h1:qbd ((first:Int),[(imm,11,1,10,()),(imm,12,4,0,())])=true:=qop first _ h rfl
 have h2:qbd (0,[(imm,8,3,12,()),(rd,0,4,8,()),(imm,0,8,0,())])=true:=qBo _ rfl
 show(bif qbd ((first:Int),[(imm,11,1,10,()),(imm,12,4,0,())]) then(bif qbd (0,[(imm,8,3,12,()),(rd,0,4,8,()),(imm,0,8,0,())]) then _ else _) else _)=_
 rw[h1,h2]
 rfl
theorem qsc (a b:Int) (h:first<281474976710656):(qbY ((first:Int),a,b)).val=some (qq ((first:Int),[(a,0,3,0,()),(b,0,3,3,())]),0,false,()):=by
 have h1:qbd ((first:Int),[(a,0,3,0,()),(b,0,3,3,())])=true:=qop first _ h rfl
 show(bif qbd ((first:Int),[(a,0,3,0,()),(b,0,3,3,())]) then _ else _)=_
 rw[h1]
 rfl
def qt3:Nat:=qqu imm 1 11 0
theorem qQv:qt3 imm<2048:=by
 unfold qt3 qqu
 have h:=qm7 (imm / (2 ^ (1:Int).toNat:Nat)) 11
 have e:(11:Int).toNat=11:=rfl
 have e0:(0:Int).toNat=0:=rfl
 rw[e,e0]
 omega
theorem qKq:qq (0,[(imm,1,11,0,())])=(qt3 imm:Int):=by
 show((0 |||qqu imm 1 11 0:Nat):Int)=_
 rw[Nat.zero_or]
 rfl
def qrf:qhN.den :=
 bif op==25 then(qq (61440,[(qbF .i64 (q8 .i64 imm 24) 1,0,1,10,()),(cond,0,4,6,()),(imm,12,6,0,())]),qq (((qt3 imm |||32768:Nat):Int),[(imm,18,1,13,()),(imm,19,1,11,())]),true,())
 else(qq (61440,[(qbF .i64 (q8 .i64 imm 24) 1,0,1,10,()),(imm,12,10,0,())]),qq (((qt3 imm |||36864:Nat):Int),[(qh3 .i64 (ql2 .i64 (q8 .i64 imm 23)) (qbF .i64 (q8 .i64 imm 24) 1),0,1,13,()),(qh3 .i64 (ql2 .i64 (q8 .i64 imm 22)) (qbF .i64 (q8 .i64 imm 24) 1),0,1,11,())]),true,())
theorem qEM:(qef (op,rd,rn,rm,ra,imm,cond,w,())).val=some (qrf op imm cond):=by
 have hl:=qQv imm
 have o1:qt3 imm |||32768<2 ^ 48:=Nat.or_lt_two_pow (by omega) (by omega)
 have o2:qt3 imm |||36864<2 ^ 48:=Nat.or_lt_two_pow (by omega) (by omega)
 have e1:bor .i64 (qq (0,[(imm,1,11,0,())])) 32768=((qt3 imm |||32768:Nat):Int):=by
  rw[qKq];exact qtz (b:=32768) (by omega) (by omega)
 have e2:bor .i64 (qq (0,[(imm,1,11,0,())])) 36864=((qt3 imm |||36864:Nat):Int):=by
  rw[qKq];exact qtz (b:=36864) (by omega) (by omega)
 have g0:qbd (0,[(imm,1,11,0,())])=true:=qBo _ rfl
 have g1:qbd (61440,[(qbF .i64 (q8 .i64 imm 24) 1,0,1,10,()),(cond,0,4,6,()),(imm,12,6,0,())])=true:=qop 61440 _ (by omega) rfl
 have g2:qbd (61440,[(qbF .i64 (q8 .i64 imm 24) 1,0,1,10,()),(imm,12,10,0,())])=true:=qop 61440 _ (by omega) rfl
 have g3:=qop (qt3 imm |||32768) [(imm,18,1,13,()),(imm,19,1,11,())] o1 rfl
 have g4:=qop (qt3 imm |||36864) [(qh3 .i64 (ql2 .i64 (q8 .i64 imm 23)) (qbF .i64 (q8 .i64 imm 24) 1),0,1,13,()),(qh3 .i64 (ql2 .i64 (q8 .i64 imm 22)) (qbF .i64 (q8 .i64 imm 24) 1),0,1,11,())] o2 rfl
 simp only[qef,PO.val]
 rw[e1,e2,g0,g1,g2,g3,g4]
 unfold qrf
 cases op==25
 ·rfl
 ·rfl
end
def qc5 (op rd rn rm ra imm cond:Int) (w:Bool):qhN.den :=
 bif op==1 then(48896,0,false,())
 else bif op==2 then(bor .i64 48640 imm,0,false,())
 else bif op==3 then(qq (62016,[(imm,11,1,10,()),(imm,12,4,0,())]),qq (0,[(imm,8,3,12,()),(rd,0,4,8,()),(imm,0,8,0,())]),true,())
 else bif op==4 then(qq (62144,[(imm,11,1,10,()),(imm,12,4,0,())]),qq (0,[(imm,8,3,12,()),(rd,0,4,8,()),(imm,0,8,0,())]),true,())
 else bif decide (op≤16)&&decide (5≤op) then
  (qq (bif decide (op≤8) then 59983 else bif op==9 then 60015 else bif op==10 then 59904 else bif op==11 then 59936 else bif op==12 then 59968 else bif op==13 then 60032 else bif op==14 then 60160 else bif op==15 then 60320 else 64256,[(rn,0,4,0,())]),
   (bif op==16 then bor .i64 (qq (0,[(imm,2,3,12,()),(rd,0,4,8,()),(imm,0,2,6,()),(0,0,2,4,()),(rm,0,4,0,())])) 61440
   else qq (0,[(imm,2,3,12,()),(rd,0,4,8,()),(imm,0,2,6,()),(bif decide (op≤8) then op-5 else 0,0,2,4,()),(rm,0,4,0,())])),true,())
 else bif op==17 then(bor .i64 64416 rn,bor .i64 (bor .i64 (qz .i64 rd 12) (qz .i64 ra 8)) rm,true,())
 else bif op==18 then(bor .i64 62304 rn,qq (imm+ra-1,[(imm,2,3,12,()),(rd,0,4,8,()),(imm,0,2,6,())]),true,())
 else bif op==23 then(qq (17024,[(rn,0,3,0,()),(rm,0,3,3,())]),0,false,())
 else bif decide (op≤22) then(qq (bif op==19 then 26624 else bif op==20 then 24576 else bif op==21 then 30720 else 28672,[(rd,0,3,0,()),(rn,0,3,3,())]),0,false,())
 else bif w then qrf op imm cond
 else bif op==24 then(qq (57344,[(imm,1,11,0,())]),0,false,())
 else(qq (53248,[(cond,0,4,8,()),(imm,1,8,0,())]),0,false,())
theorem qNu {rd rn rm ra imm cond:Int} {w:Bool} (h:qj (18,rd,rn,rm,ra,imm,cond,w,())=0):0≤imm∧imm≤31∧1≤ra∧ra≤32-imm:=by
 have hw:=qux imm
 simp[qj,qcA,qbo,qcL,qc2,qg5,qcI,qfN,PO.qP,PO.val] at h
 grind
theorem qRi (rd rn rm ra imm cond:Int) (w:Bool) (_:qj (1,rd,rn,rm,ra,imm,cond,w,())=0):(qU (1,rd,rn,rm,ra,imm,cond,w,())).val=some (qc5 1 rd rn rm ra imm cond w):=by
 rfl
theorem qSm (rd rn rm ra imm cond:Int) (w:Bool) (_:qj (2,rd,rn,rm,ra,imm,cond,w,())=0):(qU (2,rd,rn,rm,ra,imm,cond,w,())).val=some (qc5 2 rd rn rm ra imm cond w):=by
 rfl
theorem qSt (rd rn rm ra imm cond:Int) (w:Bool) (_:qj (3,rd,rn,rm,ra,imm,cond,w,())=0):(qU (3,rd,rn,rm,ra,imm,cond,w,())).val=some (qc5 3 rd rn rm ra imm cond w):=by
 have e:(qeJ (62016,3,rd,rn,rm,ra,imm,cond,w,())).val=_:=qHB 62016 3 rd rn rm ra imm cond w (by omega)
 refine Eq.trans (b:=(bif (PO.val (qeJ (62016,3,rd,rn,rm,ra,imm,cond,w,()))).isSome then some ((PO.val (qeJ (62016,3,rd,rn,rm,ra,imm,cond,w,()))).getD default) else none)) rfl ?_
 rw[e]
 rfl
theorem qRo (rd rn rm ra imm cond:Int) (w:Bool) (_:qj (4,rd,rn,rm,ra,imm,cond,w,())=0):(qU (4,rd,rn,rm,ra,imm,cond,w,())).val=some (qc5 4 rd rn rm ra imm cond w):=by
 have e:(qeJ (62144,4,rd,rn,rm,ra,imm,cond,w,())).val=_:=qHB 62144 4 rd rn rm ra imm cond w (by omega)
 refine Eq.trans (b:=(bif (PO.val (qeJ (62144,4,rd,rn,rm,ra,imm,cond,w,()))).isSome then some ((PO.val (qeJ (62144,4,rd,rn,rm,ra,imm,cond,w,()))).getD default) else none)) rfl ?_
 rw[e]
 rfl
theorem qSu (rd rn rm ra imm cond:Int) (w:Bool) (_:qj (5,rd,rn,rm,ra,imm,cond,w,())=0):(qU (5,rd,rn,rm,ra,imm,cond,w,())).val=some (qc5 5 rd rn rm ra imm cond w):=by
 have e:(qA (59983,(5,rd,rn,rm,ra,imm,cond,w,()),(w64 (5-5)))).val=_:=qeT 59983 5 rd rn rm ra imm cond w (w64 (5-5)) (by omega)
 refine Eq.trans (b:=(bif (PO.val (qA (59983,(5,rd,rn,rm,ra,imm,cond,w,()),(w64 (5-5))))).isSome then some ((PO.val (qA (59983,(5,rd,rn,rm,ra,imm,cond,w,()),(w64 (5-5))))).getD default) else none)) rfl ?_
 rw[e]
 rfl
theorem qRJ (rd rn rm ra imm cond:Int) (w:Bool) (_:qj (6,rd,rn,rm,ra,imm,cond,w,())=0):(qU (6,rd,rn,rm,ra,imm,cond,w,())).val=some (qc5 6 rd rn rm ra imm cond w):=by
 have e:(qA (59983,(6,rd,rn,rm,ra,imm,cond,w,()),(w64 (6-5)))).val=_:=qeT 59983 6 rd rn rm ra imm cond w (w64 (6-5)) (by omega)
 refine Eq.trans (b:=(bif (PO.val (qA (59983,(6,rd,rn,rm,ra,imm,cond,w,()),(w64 (6-5))))).isSome then some ((PO.val (qA (59983,(6,rd,rn,rm,ra,imm,cond,w,()),(w64 (6-5))))).getD default) else none)) rfl ?_
 rw[e]
 rfl
theorem qSC (rd rn rm ra imm cond:Int) (w:Bool) (_:qj (7,rd,rn,rm,ra,imm,cond,w,())=0):(qU (7,rd,rn,rm,ra,imm,cond,w,())).val=some (qc5 7 rd rn rm ra imm cond w):=by
 have e:(qA (59983,(7,rd,rn,rm,ra,imm,cond,w,()),(w64 (7-5)))).val=_:=qeT 59983 7 rd rn rm ra imm cond w (w64 (7-5)) (by omega)
 refine Eq.trans (b:=(bif (PO.val (qA (59983,(7,rd,rn,rm,ra,imm,cond,w,()),(w64 (7-5))))).isSome then some ((PO.val (qA (59983,(7,rd,rn,rm,ra,imm,cond,w,()),(w64 (7-5))))).getD default) else none)) rfl ?_
 rw[e]
 rfl
theorem qSI (rd rn rm ra imm cond:Int) (w:Bool) (_:qj (8,rd,rn,rm,ra,imm,cond,w,())=0):(qU (8,rd,rn,rm,ra,imm,cond,w,())).val=some (qc5 8 rd rn rm ra imm cond w):=by
 have e:(qA (59983,(8,rd,rn,rm,ra,imm,cond,w,()),(w64 (8-5)))).val=_:=qeT 59983 8 rd rn rm ra imm cond w (w64 (8-5)) (by omega)
 refine Eq.trans (b:=(bif (PO.val (qA (59983,(8,rd,rn,rm,ra,imm,cond,w,()),(w64 (8-5))))).isSome then some ((PO.val (qA (59983,(8,rd,rn,rm,ra,imm,cond,w,()),(w64 (8-5))))).getD default) else none)) rfl ?_
 rw[e]
 rfl
theorem qR2 (rd rn rm ra imm cond:Int) (w:Bool) (_:qj (9,rd,rn,rm,ra,imm,cond,w,())=0):(qU (9,rd,rn,rm,ra,imm,cond,w,())).val=some (qc5 9 rd rn rm ra imm cond w):=by
 have e:(qA (60015,(9,rd,rn,rm,ra,imm,cond,w,()),0)).val=_:=qeT 60015 9 rd rn rm ra imm cond w 0 (by omega)
 refine Eq.trans (b:=(bif (PO.val (qA (60015,(9,rd,rn,rm,ra,imm,cond,w,()),0))).isSome then some ((PO.val (qA (60015,(9,rd,rn,rm,ra,imm,cond,w,()),0))).getD default) else none)) rfl ?_
 rw[e]
 rfl
theorem qPX (rd rn rm ra imm cond:Int) (w:Bool) (_:qj (10,rd,rn,rm,ra,imm,cond,w,())=0):(qU (10,rd,rn,rm,ra,imm,cond,w,())).val=some (qc5 10 rd rn rm ra imm cond w):=by
 have e:(qA (59904,(10,rd,rn,rm,ra,imm,cond,w,()),0)).val=_:=qeT 59904 10 rd rn rm ra imm cond w 0 (by omega)
 refine Eq.trans (b:=(bif (PO.val (qA (59904,(10,rd,rn,rm,ra,imm,cond,w,()),0))).isSome then some ((PO.val (qA (59904,(10,rd,rn,rm,ra,imm,cond,w,()),0))).getD default) else none)) rfl ?_
 rw[e]
 rfl
theorem qQs (rd rn rm ra imm cond:Int) (w:Bool) (_:qj (11,rd,rn,rm,ra,imm,cond,w,())=0):(qU (11,rd,rn,rm,ra,imm,cond,w,())).val=some (qc5 11 rd rn rm ra imm cond w):=by
 have e:(qA (59936,(11,rd,rn,rm,ra,imm,cond,w,()),0)).val=_:=qeT 59936 11 rd rn rm ra imm cond w 0 (by omega)
 refine Eq.trans (b:=(bif (PO.val (qA (59936,(11,rd,rn,rm,ra,imm,cond,w,()),0))).isSome then some ((PO.val (qA (59936,(11,rd,rn,rm,ra,imm,cond,w,()),0))).getD default) else none)) rfl ?_
 rw[e]
 rfl
theorem qQ4 (rd rn rm ra imm cond:Int) (w:Bool) (_:qj (12,rd,rn,rm,ra,imm,cond,w,())=0):(qU (12,rd,rn,rm,ra,imm,cond,w,())).val=some (qc5 12 rd rn rm ra imm cond w):=by
 have e:(qA (59968,(12,rd,rn,rm,ra,imm,cond,w,()),0)).val=_:=qeT 59968 12 rd rn rm ra imm cond w 0 (by omega)
 refine Eq.trans (b:=(bif (PO.val (qA (59968,(12,rd,rn,rm,ra,imm,cond,w,()),0))).isSome then some ((PO.val (qA (59968,(12,rd,rn,rm,ra,imm,cond,w,()),0))).getD default) else none)) rfl ?_
 rw[e]
 rfl
theorem qQO (rd rn rm ra imm cond:Int) (w:Bool) (_:qj (13,rd,rn,rm,ra,imm,cond,w,())=0):(qU (13,rd,rn,rm,ra,imm,cond,w,())).val=some (qc5 13 rd rn rm ra imm cond w):=by
 have e:(qA (60032,(13,rd,rn,rm,ra,imm,cond,w,()),0)).val=_:=qeT 60032 13 rd rn rm ra imm cond w 0 (by omega)
 refine Eq.trans (b:=(bif (PO.val (qA (60032,(13,rd,rn,rm,ra,imm,cond,w,()),0))).isSome then some ((PO.val (qA (60032,(13,rd,rn,rm,ra,imm,cond,w,()),0))).getD default) else none)) rfl ?_
 rw[e]
 rfl
theorem qQX (rd rn rm ra imm cond:Int) (w:Bool) (_:qj (14,rd,rn,rm,ra,imm,cond,w,())=0):(qU (14,rd,rn,rm,ra,imm,cond,w,())).val=some (qc5 14 rd rn rm ra imm cond w):=by
 have e:(qA (60160,(14,rd,rn,rm,ra,imm,cond,w,()),0)).val=_:=qeT 60160 14 rd rn rm ra imm cond w 0 (by omega)
 refine Eq.trans (b:=(bif (PO.val (qA (60160,(14,rd,rn,rm,ra,imm,cond,w,()),0))).isSome then some ((PO.val (qA (60160,(14,rd,rn,rm,ra,imm,cond,w,()),0))).getD default) else none)) rfl ?_
 rw[e]
 rfl
theorem qQr (rd rn rm ra imm cond:Int) (w:Bool) (_:qj (15,rd,rn,rm,ra,imm,cond,w,())=0):(qU (15,rd,rn,rm,ra,imm,cond,w,())).val=some (qc5 15 rd rn rm ra imm cond w):=by
 have e:(qA (60320,(15,rd,rn,rm,ra,imm,cond,w,()),0)).val=_:=qeT 60320 15 rd rn rm ra imm cond w 0 (by omega)
 refine Eq.trans (b:=(bif (PO.val (qA (60320,(15,rd,rn,rm,ra,imm,cond,w,()),0))).isSome then some ((PO.val (qA (60320,(15,rd,rn,rm,ra,imm,cond,w,()),0))).getD default) else none)) rfl ?_
 rw[e]
 rfl
theorem qQx (rd rn rm ra imm cond:Int) (w:Bool) (_:qj (16,rd,rn,rm,ra,imm,cond,w,())=0):(qU (16,rd,rn,rm,ra,imm,cond,w,())).val=some (qc5 16 rd rn rm ra imm cond w):=by
 have b:(qU (16,rd,rn,rm,ra,imm,cond,w,())).val=(bif (PO.val (qW (16,rd,rn,rm,ra,imm,cond,w,()))).isSome then some ((PO.val (qW (16,rd,rn,rm,ra,imm,cond,w,()))).getD default) else none):=rfl
 have e:(qA (64256,(16,rd,rn,rm,ra,imm,cond,w,()),0)).val=_:=qeT 64256 16 rd rn rm ra imm cond w 0 (by omega)
 have o:(qW (16,rd,rn,rm,ra,imm,cond,w,())).val=some (qq (64256,[(rn,0,4,0,())]),bor .i64 (qq (0,[(imm,2,3,12,()),(rd,0,4,8,()),(imm,0,2,6,()),(0,0,2,4,()),(rm,0,4,0,())])) 61440,true,()):=by
  refine Eq.trans (b:=(bif (PO.val (qA (64256,(16,rd,rn,rm,ra,imm,cond,w,()),0))).isSome then some (((PO.val (qA (64256,(16,rd,rn,rm,ra,imm,cond,w,()),0))).getD default).1,bor .i64 ((PO.val (qA (64256,(16,rd,rn,rm,ra,imm,cond,w,()),0))).getD default).2.1 61440,((PO.val (qA (64256,(16,rd,rn,rm,ra,imm,cond,w,()),0))).getD default).2.2) else none)) rfl ?_
  rw[e]
  rfl
 have c:qc5 16 rd rn rm ra imm cond w=(qq (64256,[(rn,0,4,0,())]),bor .i64 (qq (0,[(imm,2,3,12,()),(rd,0,4,8,()),(imm,0,2,6,()),(0,0,2,4,()),(rm,0,4,0,())])) 61440,true,()):=rfl
 rw[b,o,c]
 rfl
theorem qQa (rd rn rm ra imm cond:Int) (w:Bool) (_:qj (17,rd,rn,rm,ra,imm,cond,w,())=0):(qU (17,rd,rn,rm,ra,imm,cond,w,())).val=some (qc5 17 rd rn rm ra imm cond w):=by
 have b:(qU (17,rd,rn,rm,ra,imm,cond,w,())).val=(bif (PO.val (qW (17,rd,rn,rm,ra,imm,cond,w,()))).isSome then some ((PO.val (qW (17,rd,rn,rm,ra,imm,cond,w,()))).getD default) else none):=rfl
 have o:(qW (17,rd,rn,rm,ra,imm,cond,w,())).val=some (bor .i64 64416 rn,bor .i64 (bor .i64 (qz .i64 rd 12) (qz .i64 ra 8)) rm,true,()):=rfl
 have c:qc5 17 rd rn rm ra imm cond w=(bor .i64 64416 rn,bor .i64 (bor .i64 (qz .i64 rd 12) (qz .i64 ra 8)) rm,true,()):=rfl
 rw[b,o,c]
 rfl
theorem qQy (rd rn rm ra imm cond:Int) (w:Bool) (h:qj (18,rd,rn,rm,ra,imm,cond,w,())=0):(qU (18,rd,rn,rm,ra,imm,cond,w,())).val=some (qc5 18 rd rn rm ra imm cond w):=by
 have b:(qU (18,rd,rn,rm,ra,imm,cond,w,())).val=(bif (PO.val (qW (18,rd,rn,rm,ra,imm,cond,w,()))).isSome then some ((PO.val (qW (18,rd,rn,rm,ra,imm,cond,w,()))).getD default) else none):=rfl
 obtain⟨c1,c2,c3,c4⟩:=qNu h
 have hs:w64 (w64 (imm+ra)-1)=imm+ra-1:=by rw[qt (n:=imm+ra) (by omega) (by omega),qt (by omega) (by omega)]
 obtain⟨n,hn⟩:=Int.eq_ofNat_of_zero_le (show 0≤imm+ra-1 by omega)
 have g:=qop n [(imm,2,3,12,()),(rd,0,4,8,()),(imm,0,2,6,())] (by omega) rfl
 have o:(qW (18,rd,rn,rm,ra,imm,cond,w,())).val=some (bor .i64 62304 rn,qq (imm+ra-1,[(imm,2,3,12,()),(rd,0,4,8,()),(imm,0,2,6,())]),true,()):=by
  refine Eq.trans (b:=(bif qbd (w64 (w64 (imm+ra)-1),[(imm,2,3,12,()),(rd,0,4,8,()),(imm,0,2,6,())]) then some (bor .i64 62304 rn,qq (w64 (w64 (imm+ra)-1),[(imm,2,3,12,()),(rd,0,4,8,()),(imm,0,2,6,())]),true,()) else none)) rfl ?_
  rw[hs,hn,g]
  rfl
 have c:qc5 18 rd rn rm ra imm cond w=(bor .i64 62304 rn,qq (imm+ra-1,[(imm,2,3,12,()),(rd,0,4,8,()),(imm,0,2,6,())]),true,()):=rfl
 rw[b,o,c]
 rfl
theorem qQR (rd rn rm ra imm cond:Int) (w:Bool) (_:qj (19,rd,rn,rm,ra,imm,cond,w,())=0):(qU (19,rd,rn,rm,ra,imm,cond,w,())).val=some (qc5 19 rd rn rm ra imm cond w):=by
 have b:(qU (19,rd,rn,rm,ra,imm,cond,w,())).val=(bif (PO.val (qW (19,rd,rn,rm,ra,imm,cond,w,()))).isSome then some ((PO.val (qW (19,rd,rn,rm,ra,imm,cond,w,()))).getD default) else none):=rfl
 have e:(qbY (26624,rd,rn)).val=some (qq (26624,[(rd,0,3,0,()),(rn,0,3,3,())]),0,false,()):=qsc 26624 rd rn (by omega)
 have o:(qW (19,rd,rn,rm,ra,imm,cond,w,())).val=some (qq (26624,[(rd,0,3,0,()),(rn,0,3,3,())]),0,false,()):=by
  refine Eq.trans (b:=(bif (PO.val (qbY (26624,rd,rn))).isSome then some ((PO.val (qbY (26624,rd,rn))).getD default) else none)) rfl ?_
  rw[e]
  rfl
 have c:qc5 19 rd rn rm ra imm cond w=(qq (26624,[(rd,0,3,0,()),(rn,0,3,3,())]),0,false,()):=rfl
 rw[b,o,c]
 rfl
theorem qQw (rd rn rm ra imm cond:Int) (w:Bool) (_:qj (20,rd,rn,rm,ra,imm,cond,w,())=0):(qU (20,rd,rn,rm,ra,imm,cond,w,())).val=some (qc5 20 rd rn rm ra imm cond w):=by
 have b:(qU (20,rd,rn,rm,ra,imm,cond,w,())).val=(bif (PO.val (qW (20,rd,rn,rm,ra,imm,cond,w,()))).isSome then some ((PO.val (qW (20,rd,rn,rm,ra,imm,cond,w,()))).getD default) else none):=rfl
 have e:(qbY (24576,rd,rn)).val=some (qq (24576,[(rd,0,3,0,()),(rn,0,3,3,())]),0,false,()):=qsc 24576 rd rn (by omega)
 have o:(qW (20,rd,rn,rm,ra,imm,cond,w,())).val=some (qq (24576,[(rd,0,3,0,()),(rn,0,3,3,())]),0,false,()):=by
  refine Eq.trans (b:=(bif (PO.val (qbY (24576,rd,rn))).isSome then some ((PO.val (qbY (24576,rd,rn))).getD default) else none)) rfl ?_
  rw[e]
  rfl
 have c:qc5 20 rd rn rm ra imm cond w=(qq (24576,[(rd,0,3,0,()),(rn,0,3,3,())]),0,false,()):=rfl
 rw[b,o,c]
 rfl
theorem qQG (rd rn rm ra imm cond:Int) (w:Bool) (_:qj (21,rd,rn,rm,ra,imm,cond,w,())=0):(qU (21,rd,rn,rm,ra,imm,cond,w,())).val=some (qc5 21 rd rn rm ra imm cond w):=by
 have b:(qU (21,rd,rn,rm,ra,imm,cond,w,())).val=(bif (PO.val (qW (21,rd,rn,rm,ra,imm,cond,w,()))).isSome then some ((PO.val (qW (21,rd,rn,rm,ra,imm,cond,w,()))).getD default) else none):=rfl
 have e:(qbY (30720,rd,rn)).val=some (qq (30720,[(rd,0,3,0,()),(rn,0,3,3,())]),0,false,()):=qsc 30720 rd rn (by omega)
 have o:(qW (21,rd,rn,rm,ra,imm,cond,w,())).val=some (qq (30720,[(rd,0,3,0,()),(rn,0,3,3,())]),0,false,()):=by
  refine Eq.trans (b:=(bif (PO.val (qbY (30720,rd,rn))).isSome then some ((PO.val (qbY (30720,rd,rn))).getD default) else none)) rfl ?_
  rw[e]
  rfl
 have c:qc5 21 rd rn rm ra imm cond w=(qq (30720,[(rd,0,3,0,()),(rn,0,3,3,())]),0,false,()):=rfl
 rw[b,o,c]
 rfl
theorem qRb (rd rn rm ra imm cond:Int) (w:Bool) (_:qj (22,rd,rn,rm,ra,imm,cond,w,())=0):(qU (22,rd,rn,rm,ra,imm,cond,w,())).val=some (qc5 22 rd rn rm ra imm cond w):=by
 have b:(qU (22,rd,rn,rm,ra,imm,cond,w,())).val=(bif (PO.val (qW (22,rd,rn,rm,ra,imm,cond,w,()))).isSome then some ((PO.val (qW (22,rd,rn,rm,ra,imm,cond,w,()))).getD default) else none):=rfl
 have e:(qbY (28672,rd,rn)).val=some (qq (28672,[(rd,0,3,0,()),(rn,0,3,3,())]),0,false,()):=qsc 28672 rd rn (by omega)
 have o:(qW (22,rd,rn,rm,ra,imm,cond,w,())).val=some (qq (28672,[(rd,0,3,0,()),(rn,0,3,3,())]),0,false,()):=by
  refine Eq.trans (b:=(bif (PO.val (qbY (28672,rd,rn))).isSome then some ((PO.val (qbY (28672,rd,rn))).getD default) else none)) rfl ?_
  rw[e]
  rfl
 have c:qc5 22 rd rn rm ra imm cond w=(qq (28672,[(rd,0,3,0,()),(rn,0,3,3,())]),0,false,()):=rfl
 rw[b,o,c]
 rfl
theorem qQV (rd rn rm ra imm cond:Int) (w:Bool) (_:qj (23,rd,rn,rm,ra,imm,cond,w,())=0):(qU (23,rd,rn,rm,ra,imm,cond,w,())).val=some (qc5 23 rd rn rm ra imm cond w):=by
 have b:(qU (23,rd,rn,rm,ra,imm,cond,w,())).val=(bif (PO.val (qW (23,rd,rn,rm,ra,imm,cond,w,()))).isSome then some ((PO.val (qW (23,rd,rn,rm,ra,imm,cond,w,()))).getD default) else none):=rfl
 have e:(qbY (17024,rn,rm)).val=some (qq (17024,[(rn,0,3,0,()),(rm,0,3,3,())]),0,false,()):=qsc 17024 rn rm (by omega)
 have o:(qW (23,rd,rn,rm,ra,imm,cond,w,())).val=some (qq (17024,[(rn,0,3,0,()),(rm,0,3,3,())]),0,false,()):=by
  refine Eq.trans (b:=(bif (PO.val (qbY (17024,rn,rm))).isSome then some ((PO.val (qbY (17024,rn,rm))).getD default) else none)) rfl ?_
  rw[e]
  rfl
 have c:qc5 23 rd rn rm ra imm cond w=(qq (17024,[(rn,0,3,0,()),(rm,0,3,3,())]),0,false,()):=rfl
 rw[b,o,c]
 rfl
theorem qQN (rd rn rm ra imm cond:Int) (w:Bool) (_:qj (24,rd,rn,rm,ra,imm,cond,w,())=0):(qU (24,rd,rn,rm,ra,imm,cond,w,())).val=some (qc5 24 rd rn rm ra imm cond w):=by
 have b:(qU (24,rd,rn,rm,ra,imm,cond,w,())).val=(bif (PO.val (qW (24,rd,rn,rm,ra,imm,cond,w,()))).isSome then some ((PO.val (qW (24,rd,rn,rm,ra,imm,cond,w,()))).getD default) else none):=rfl
 have e:(qef (24,rd,rn,rm,ra,imm,cond,w,())).val=some (qrf 24 imm cond):=qEM 24 rd rn rm ra imm cond w
 have g:qbd (57344,[(imm,1,11,0,())])=true:=qop 57344 [(imm,1,11,0,())] (by omega) rfl
 have o:(qW (24,rd,rn,rm,ra,imm,cond,w,())).val=some (bif w then qrf 24 imm cond else(qq (57344,[(imm,1,11,0,())]),0,false,())):=by
  refine Eq.trans (b:=(bif w then(bif (PO.val (qef (24,rd,rn,rm,ra,imm,cond,w,()))).isSome then some ((PO.val (qef (24,rd,rn,rm,ra,imm,cond,w,()))).getD default) else none) else(bif qbd (57344,[(imm,1,11,0,())]) then some (qq (57344,[(imm,1,11,0,())]),0,false,()) else none))) rfl ?_
  rw[e,g]
  cases w<;>rfl
 have c:qc5 24 rd rn rm ra imm cond w=(bif w then qrf 24 imm cond else(qq (57344,[(imm,1,11,0,())]),0,false,())):=rfl
 rw[b,o,c]
 rfl
theorem qQP (rd rn rm ra imm cond:Int) (w:Bool) (_:qj (25,rd,rn,rm,ra,imm,cond,w,())=0):(qU (25,rd,rn,rm,ra,imm,cond,w,())).val=some (qc5 25 rd rn rm ra imm cond w):=by
 have b:(qU (25,rd,rn,rm,ra,imm,cond,w,())).val=(bif (PO.val (qW (25,rd,rn,rm,ra,imm,cond,w,()))).isSome then some ((PO.val (qW (25,rd,rn,rm,ra,imm,cond,w,()))).getD default) else none):=rfl
 have e:(qef (25,rd,rn,rm,ra,imm,cond,w,())).val=some (qrf 25 imm cond):=qEM 25 rd rn rm ra imm cond w
 have g:qbd (53248,[(cond,0,4,8,()),(imm,1,8,0,())])=true:=qop 53248 [(cond,0,4,8,()),(imm,1,8,0,())] (by omega) rfl
 have o:(qW (25,rd,rn,rm,ra,imm,cond,w,())).val=some (bif w then qrf 25 imm cond else(qq (53248,[(cond,0,4,8,()),(imm,1,8,0,())]),0,false,())):=by
  refine Eq.trans (b:=(bif w then(bif (PO.val (qef (25,rd,rn,rm,ra,imm,cond,w,()))).isSome then some ((PO.val (qef (25,rd,rn,rm,ra,imm,cond,w,()))).getD default) else none) else(bif qbd (53248,[(cond,0,4,8,()),(imm,1,8,0,())]) then some (qq (53248,[(cond,0,4,8,()),(imm,1,8,0,())]),0,false,()) else none))) rfl ?_
  rw[e,g]
  cases w<;>rfl
 have c:qc5 25 rd rn rm ra imm cond w=(bif w then qrf 25 imm cond else(qq (53248,[(cond,0,4,8,()),(imm,1,8,0,())]),0,false,())):=rfl
 rw[b,o,c]
 rfl
theorem qOs (op rd rn rm ra imm cond:Int) (w:Bool) (h:qj (op,rd,rn,rm,ra,imm,cond,w,())=0):(qU (op,rd,rn,rm,ra,imm,cond,w,())).val=some (qc5 op rd rn rm ra imm cond w):=by
 rcases qgi op with rfl |rfl |rfl |rfl |rfl |rfl |rfl |rfl |rfl |rfl |rfl |rfl |rfl |rfl |rfl |rfl |rfl |rfl |rfl |rfl |rfl |rfl |rfl |rfl |rfl |hop
 case inr.inr.inr.inr.inr.inr.inr.inr.inr.inr.inr.inr.inr.inr.inr.inr.inr.inr.inr.inr.inr.inr.inr.inr.inr =>
  exfalso
  have e:=fun k hk=>qp5 (n:=op) (k:=k) hop hk
  simp[qj,qcA,qbo,qcL,PO.qP,PO.val,e] at h
 ·exact qRi rd rn rm ra imm cond w h
 ·exact qSm rd rn rm ra imm cond w h
 ·exact qSt rd rn rm ra imm cond w h
 ·exact qRo rd rn rm ra imm cond w h
 ·exact qSu rd rn rm ra imm cond w h
 ·exact qRJ rd rn rm ra imm cond w h
 ·exact qSC rd rn rm ra imm cond w h
 ·exact qSI rd rn rm ra imm cond w h
 ·exact qR2 rd rn rm ra imm cond w h
 ·exact qPX rd rn rm ra imm cond w h
 ·exact qQs rd rn rm ra imm cond w h
 ·exact qQ4 rd rn rm ra imm cond w h
 ·exact qQO rd rn rm ra imm cond w h
 ·exact qQX rd rn rm ra imm cond w h
 ·exact qQr rd rn rm ra imm cond w h
 ·exact qQx rd rn rm ra imm cond w h
 ·exact qQa rd rn rm ra imm cond w h
 ·exact qQy rd rn rm ra imm cond w h
 ·exact qQR rd rn rm ra imm cond w h
 ·exact qQw rd rn rm ra imm cond w h
 ·exact qQG rd rn rm ra imm cond w h
 ·exact qRb rd rn rm ra imm cond w h
 ·exact qQV rd rn rm ra imm cond w h
 ·exact qQN rd rn rm ra imm cond w h
 ·exact qQP rd rn rm ra imm cond w h
theorem qM6 (op rd rn rm ra imm cond:Int) (w:Bool) (h:qj (op,rd,rn,rm,ra,imm,cond,w,())=0):(qc5 op rd rn rm ra imm cond w).2.2.1=qkE op w:=by
 have hwide:∀op:Int,(qrf op imm cond).2.2.1=true:=fun op=>by unfold qrf;cases op==25<;>rfl
 rcases qgi op with rfl |rfl |rfl |rfl |rfl |rfl |rfl |rfl |rfl |rfl |rfl |rfl |rfl |rfl |rfl |rfl |rfl |rfl |rfl |rfl |rfl |rfl |rfl |rfl |rfl |hop
 case inr.inr.inr.inr.inr.inr.inr.inr.inr.inr.inr.inr.inr.inr.inr.inr.inr.inr.inr.inr.inr.inr.inr.inr.inr =>
  exfalso
  have e:=fun k hk=>qp5 (n:=op) (k:=k) hop hk
  simp[qj,qcA,qbo,qcL,PO.qP,PO.val,e] at h
 all_goals
  have hw:w=false∨w=true:=by cases w<;>simp
  rcases hw with rfl |rfl
  ·rfl
  ·first
   |(exfalso;simp[qj,qcA,PO.qP,PO.val] at h;done)
   |rfl
   |exact hwide _
end Go.Av
end
section
namespace Go.Av
open Go
abbrev qoi:List Ty:=[q9]
abbrev qp9:Sh:=Sh.ty (Ty.int IntKind.i64)
def qtI (x:qc qoi):PO (Sh.den qp9) :=
 (.ite (qj x != 0)
  (.ret (0))
  (.ite (qq0 x)
  (.ite ((qqH x).2.2.1)
   (.ret (4))
   (.ret (2)))
  .fail))
def qtR (_:qc qoi):Bool:=true
def qoh (x:qc qoi):Sh.den qp9:=bif qj x != 0 then 0 else bif qkE x.1 x.2.2.2.2.2.2.2.1 then 4 else 2
theorem qOm (x:q9.den):(qtI x).val=some (bif qj x != 0 then 0 else bif qkE x.1 x.2.2.2.2.2.2.2.1 then 4 else 2):=by
 obtain⟨op,rd,rn,rm,ra,imm,cond,w,u⟩:=x
 show(bif qj (op,rd,rn,rm,ra,imm,cond,w,()) != 0 then some 0 else(bif (qU (op,rd,rn,rm,ra,imm,cond,w,())).val.isSome then(bif ((qU (op,rd,rn,rm,ra,imm,cond,w,())).val.getD default).2.2.1 then some 4 else some 2) else none))=some (bif qj (op,rd,rn,rm,ra,imm,cond,w,()) != 0 then 0 else bif qkE op w then 4 else 2)
 cases hc:(qj (op,rd,rn,rm,ra,imm,cond,w,()) != (0:Int))
 ·have h:qj (op,rd,rn,rm,ra,imm,cond,w,())=0:=by simpa using hc
  rw[qOs op rd rn rm ra imm cond w h]
  show(bif (qc5 op rd rn rm ra imm cond w).2.2.1 then some 4 else some 2)=some (bif qkE op w then 4 else 2)
  rw[qM6 op rd rn rm ra imm cond w h]
  cases qkE op w<;>rfl
 ·rfl
theorem qCo (x:qc qoi) (_:qtR x=true):(qtI x).val=some (qoh x):=qOm x
end Go.Av
end
section
namespace Go.Av
open Go
abbrev qhv:List Ty:=[q9]
abbrev qj8:Sh:=Sh.ty (Ty.int IntKind.i64)
def qjX (x:qc qhv):PO (Sh.den qj8) :=
 (.ite (qbC x)
  (.ite (qn x != 0)
  (.ret (0))
  (.ret (w64 (Int.tdiv (qg (qb (x.1,x.2.2.2.2.2.2.2.1))) 8))))
  .fail)
theorem qFc (x:q9.den):(qjX x).val=some (bif qj x != 0 then 0 else bif qkE x.1 x.2.2.2.2.2.2.2.1 then 4 else 2):=by
 unfold qjX
 dsimp only[PO.val]
 rw[qtN,←qoF]
 cases hc:(qj x != (0:Int))
 ·obtain⟨op,rd,rn,rm,ra,imm,cond,w,u⟩:=x
  have h:qj (op,rd,rn,rm,ra,imm,cond,w,())=0:=by simpa using hc
  show some (w64 (Int.tdiv (qg (qb (op,w))) 8))=some (bif qkE op w then 4 else 2)
  rcases qgi op with rfl |rfl |rfl |rfl |rfl |rfl |rfl |rfl |rfl |rfl |rfl |rfl |rfl |rfl |rfl |rfl |rfl |rfl |rfl |rfl |rfl |rfl |rfl |rfl |rfl |hop
  case inr.inr.inr.inr.inr.inr.inr.inr.inr.inr.inr.inr.inr.inr.inr.inr.inr.inr.inr.inr.inr.inr.inr.inr.inr =>
   exfalso
   have e:=fun k hk=>qp5 (n:=op) (k:=k) hop hk
   simp[qj,qcA,qbo,qcL,PO.qP,PO.val,e] at h
  all_goals
   have hw:w=false∨w=true:=by cases w<;>simp
   rcases hw with rfl |rfl
   ·rfl
   ·first
    |(exfalso;simp[qj,qcA,PO.qP,PO.val] at h;done)
    |rfl
 ·rfl
def qnj (_:qc qhv):Bool:=true
def qdb (x:qc qhv):Sh.den qj8:=bif qj x != 0 then 0 else bif qkE x.1 x.2.2.2.2.2.2.2.1 then 4 else 2
theorem qwj (x:qc qhv) (_:qnj x=true):(qjX x).val=some (qdb x):=qFc x
end Go.Av
end
section
namespace Go.Av
open Go
abbrev qih:List Ty:=[(.int .i64),(.int .i64)]
abbrev qkz:Sh:=Sh.ty (Ty.int IntKind.i64)
def qsx (x:qc qih):PO (Sh.den qkz) :=
 (.ret (qp (w64 (qp x.1+qp x.2))))
def qn0 (_:qc qih):Bool:=true
def qii (x:qc qih):Sh.den qkz:=(wn (x.1+x.2):Int)
theorem qwZ (x:qc qih) (_:qn0 x=true):(qsx x).val=some (qii x):=by
 obtain⟨a,b⟩:=x
 show some ((wn (w64 ((wn a:Int)+(wn b:Int))):Nat):Int)=some ((wn (a+b):Nat):Int)
 rw[show wn (w64 ((wn a:Int)+(wn b:Int)))=wn (a+b) from qx3 (by rw[qlL,qlV,qlV];omega)]
abbrev qim:List Ty:=[(.int .i64),(.int .i64)]
abbrev qkC:Sh:=Sh.ty (Ty.int IntKind.i64)
def qsw (x:qc qim):PO (Sh.den qkC) :=
 (.ret (qp (w64 (w64 (qp x.1+4294967296)-qp x.2))))
def qnI (_:qc qim):Bool:=true
def qdz (x:qc qim):Sh.den qkC:=(wn (x.1-x.2):Int)
theorem qwT (x:qc qim) (_:qnI x=true):(qsw x).val=some (qdz x):=by
 obtain⟨a,b⟩:=x
 show some ((wn (w64 (w64 ((wn a:Int)+4294967296)-(wn b:Int))):Nat):Int)=some ((wn (a-b):Nat):Int)
 have ha:=qdC a
 rw[show wn (w64 (w64 ((wn a:Int)+4294967296)-(wn b:Int)))=wn (a-b) from qx3 (by rw[qlL,qt (by omega) (by omega),qlV,qlV];omega)]
theorem qyp {m:Nat} (h:m<18446744073709551616):IntKind.u64.wrap (m:Int)=m:=by rw[qt8,Int.emod_eq_of_lt (by omega) (by omega)]
theorem qHe (a b:Int):IntKind.u64.wrap (IntKind.u64.wrap (wn a:Int)*IntKind.u64.wrap (wn b:Int))=((wn a*wn b:Nat):Int):=by
 have h1:=qdC a
 have h2:=qdC b
 have h3:=qAK a b
 rw[qyp (by omega),qyp (by omega),show(wn a:Int)*(wn b:Int)=((wn a*wn b:Nat):Int) by simp,qyp (by omega)]
abbrev qh8:List Ty:=[(.int .i64),(.int .i64)]
abbrev qkD:Sh:=Sh.ty (Ty.int IntKind.i64)
def qsd (x:qc qh8):PO (Sh.den qkD) :=
 (.ret (w64 (Int.tmod (IntKind.wrap IntKind.u64 (IntKind.wrap IntKind.u64 (qp x.1)*IntKind.wrap IntKind.u64 (qp x.2))) 4294967296)))
def qnS (_:qc qh8):Bool:=true
def qhV (x:qc qh8):Sh.den qkD:=((wn x.1*wn x.2 % 4294967296:Nat):Int)
theorem qw1 (x:qc qh8) (_:qnS x=true):(qsd x).val=some (qhV x):=by
 obtain⟨a,b⟩:=x
 show some (w64 (Int.tmod (IntKind.u64.wrap (IntKind.u64.wrap (wn a:Int)*IntKind.u64.wrap (wn b:Int))) 4294967296))=some ((wn a*wn b % 4294967296:Nat):Int)
 rw[qHe,qmh _ _ (by omega),qt (by omega) (by omega)]
 congr 1
abbrev qhf:List Ty:=[(.int .i64),(.int .i64)]
abbrev qjV:Sh:=Sh.ty (Ty.int IntKind.i64)
def qri (x:qc qhf):PO (Sh.den qjV) :=
 (.ret (w64 (IntKind.wrap IntKind.u64 (Int.tdiv (IntKind.wrap IntKind.u64 (IntKind.wrap IntKind.u64 (qp x.1)*IntKind.wrap IntKind.u64 (qp x.2))) 4294967296))))
def qno (_:qc qhf):Bool:=true
def qfs (x:qc qhf):Sh.den qjV:=((wn x.1*wn x.2 / 4294967296:Nat):Int)
theorem qwx (x:qc qhf) (_:qno x=true):(qri x).val=some (qfs x):=by
 obtain⟨a,b⟩:=x
 have h3:=qAK a b
 have e1:((wn a*wn b:Nat):Int) / 4294967296=((wn a*wn b / 4294967296:Nat):Int):=by omega
 show some (w64 (IntKind.u64.wrap (Int.tdiv (IntKind.u64.wrap (IntKind.u64.wrap (wn a:Int)*IntKind.u64.wrap (wn b:Int))) 4294967296)))=some ((wn a*wn b / 4294967296:Nat):Int)
 rw[qHe,qpS _ _ (by omega),e1,qyp (by omega),qt (by omega) (by omega)]
theorem qAh (n:Int):qbg (qK n)=((2 ^ kk n:Nat):Int):=by
 show((2 ^ Int.toNat (kk n:Int):Nat):Int)=_
 rw[Int.toNat_natCast]
theorem quy (n:Int):qb5 (qK n)=true:=by
 have:=qtp n
 exact qJ (show(kk n:Int)≤62 by omega)
theorem qBE (n:Int):(((2 ^ kk n:Nat):Int)==0)=false:=by
 have:=Nat.two_pow_pos (kk n)
 rw[beq_eq_false_iff_ne]
 omega
def bt (m j:Nat):Nat:=m / 2 ^ j % 2
theorem qhb (m j:Nat):bt m j=(m.testBit j).toNat:=(Nat.toNat_testBit m j).symm
theorem qwg (m j:Nat):bt m j≤1:=by unfold bt;omega
abbrev qh7:List Ty:=[(.int .i64),(.int .i64)]
abbrev qle:Sh:=Sh.ty (Ty.int IntKind.i64)
def qsg (x:qc qh7):PO (Sh.den qle) :=
 (.ite (qb5 (qK x.2)&&!qbg (qK x.2)==0)
  (.ret (Int.tmod (w64 (Int.tdiv (qp x.1) (qbg (qK x.2)))) 2))
  .fail)
def qeQ (_:qc qh7):Bool:=true
def q0 (x:qc qh7):Sh.den qle:=(bt (wn x.1) (kk x.2):Int)
theorem qwW (x:qc qh7) (_:qeQ x=true):(qsg x).val=some (q0 x):=by
 obtain⟨a,n⟩:=x
 have hl:=qdC a
 have hd:wn a / 2 ^ kk n≤wn a:=Nat.div_le_self _ _
 show(bif qb5 (qK n)&&!(qbg (qK n)==(0:Int)) then some (Int.tmod (w64 (Int.tdiv (wn a:Int) (qbg (qK n)))) 2) else none)=some ((bt (wn a) (kk n):Nat):Int)
 rw[quy,qAh,qBE,qpS _ _ (by omega),←Int.natCast_ediv]
 unfold bt
 generalize wn a / 2 ^ kk n=q at hd
 rw[qt (by omega) (by omega),qmh _ _ (by omega)]
 rfl
def qcZ:LoopN where
 M:=[0,1,2,3,9,10]
 T:=[11,12,13,14,15,16,17,18,19,20,21,22,23,24,25,26,27,28,29,30,31,32,33,34,35,36,37,38,39,40,41,42,43,44,45,46,47,48,49,50,51,52,53,54]
 D:=[0,1,2,3,10]
 ss:=[.ty (.int .i64),.ty (.int .i64),.ty (.int .i64),.ty (.int .i64),.ty (.int .i64),.ty (.int .i64)]
 hs:=[]
 es:=[.exit 0]
 σ:=(Ty.den (.int .i64))×(Ty.den (.int .i64))
 x0:=fun x _=>(x.2.2.2.2.1,x.2.2.2.2.2)
 put:=fun x _ s=>((x.1,x.2.1,x.2.2.1,x.2.2.2.1,s.1,s.2),())
 fuel:=fun _ _=>40
 turn:=fun x _ s =>
 (.ite (decide (s.2≥0))
  (.ite (qeQ (x.2.1,s.2)&&qeQ (x.2.2.1,s.2))
  (.ite (x.2.2.2.1==0||(x.2.2.2.1==1||(x.2.2.2.1==2||(x.2.2.2.1==3||qeQ (x.1,s.2)))))
   (.ret (.on (w64 (w64 (2*s.1)+bif x.2.2.2.1==0 then w64 (1-q0 (x.2.1,s.2)) else bif x.2.2.2.1==1 then w64 (q0 (x.2.1,s.2)*q0 (x.2.2.1,s.2)) else bif x.2.2.2.1==2 then imax (q0 (x.2.1,s.2)) (q0 (x.2.2.1,s.2)) else bif x.2.2.2.1==3 then Int.tmod (w64 (q0 (x.2.1,s.2)+q0 (x.2.2.1,s.2))) 2 else bif q0 (x.1,s.2)==1 then q0 (x.2.1,s.2) else q0 (x.2.2.1,s.2)),w64 (s.2-1))))
   .fail)
  .fail)
  (.ret (.out 0 (s.1,s.2))))
abbrev qgm:List Ty:=[(.int .i64),(.int .i64),(.int .i64),(.int .i64)]
abbrev qi9:Sh:=Sh.ty (Ty.int IntKind.i64)
def qmc (x:qc qgm):PO (Sh.den qi9) :=
 (.opt (LoopN.res qcZ (x.1,x.2.1,x.2.2.1,x.2.2.2,0,31) ()) fun p0 =>
  (.ret (p0.2.1)))
def qkY (m a b:Nat) (kind:Int):Nat :=
 bif kind==0 then 4294967295-a else bif kind==1 then a &&& b else bif kind==2 then a |||b else bif kind==3 then a ^^^ b else(a &&& m) |||(b &&& (4294967295-m))
theorem qNm {a j:Nat} (ha:a<4294967296) (hj:j<32):bt (4294967295-a) j=1-bt a j:=by
 have h:(4294967295-a).testBit j=!a.testBit j:=by
  rw[show 4294967295-a=2 ^ 32-(a+1) by omega,Nat.testBit_two_pow_sub_succ (by omega),decide_eq_true hj,Bool.true_and]
 rw[qhb,qhb,h]
 cases a.testBit j<;>rfl
theorem qOV {m a b j:Nat} (hm:m<4294967296) (ha:a<4294967296) (hj:j<32) (kind:Int) :
  bt (qkY m a b kind) j=bif kind==0 then 1-bt a j else bif kind==1 then bt a j*bt b j else bif kind==2 then max (bt a j) (bt b j) else bif kind==3 then(bt a j+bt b j) % 2 else bif bt m j==1 then bt a j else bt b j:=by
 unfold qkY
 cases kind==0
 ·cases kind==1
  ·cases kind==2
   ·cases kind==3
    ·simp only[cond_false]
     have hn:=qNm hm hj
     have h1:bt ((a &&& m) |||(b &&& (4294967295-m))) j=((a.testBit j&&m.testBit j)||(b.testBit j&&(4294967295-m).testBit j)).toNat:=by
      rw[qhb,Nat.testBit_or,Nat.testBit_and,Nat.testBit_and]
     rw[qhb,qhb] at hn
     rw[h1,qhb a,qhb b,qhb m]
     revert hn
     cases m.testBit j<;>cases a.testBit j<;>cases b.testBit j<;>cases (4294967295-m).testBit j<;>simp
    ·simp only[cond_false,cond_true]
     rw[qhb,qhb,qhb,Nat.testBit_xor]
     cases a.testBit j<;>cases b.testBit j<;>rfl
   ·simp only[cond_false,cond_true]
    rw[qhb,qhb,qhb,Nat.testBit_or]
    cases a.testBit j<;>cases b.testBit j<;>rfl
  ·simp only[cond_false,cond_true]
   rw[qhb,qhb,qhb,Nat.testBit_and]
   cases a.testBit j<;>cases b.testBit j<;>rfl
 ·simp only[cond_true]
  exact qNm ha hj
theorem qOG {m a b:Nat} (ha:a<4294967296) (hb:b<4294967296) (kind:Int):qkY m a b kind<4294967296:=by
 unfold qkY
 cases kind==0
 ·cases kind==1
  ·cases kind==2
   ·cases kind==3
    ·have h1:a &&& m≤a:=Nat.and_le_left
     have h2:b &&& (4294967295-m)≤b:=Nat.and_le_left
     exact Nat.or_lt_two_pow (n:=32) (by omega) (by omega)
    ·exact Nat.xor_lt_two_pow (n:=32) ha hb
   ·exact Nat.or_lt_two_pow (n:=32) ha hb
  ·have h1:a &&& b≤a:=Nat.and_le_left
   simp only[cond_false,cond_true]
   omega
 ·simp only[cond_true]
  omega
theorem qNI (f j:Nat):f / 2 ^ j=2*(f / 2 ^ (j+1))+bt f j:=by
 unfold bt
 rw[Nat.pow_succ,←Nat.div_div_eq_div_mul]
 omega
theorem qMV (m a b kind:Int):qcE (qcZ.turn (m,a,b,kind,0,31) ()) 40 (0,31)=some (0,((qkY (wn m) (wn a) (wn b) kind:Nat):Int),-1):=by
 have hF:=qOG (m:=wn m) (qdC a) (qdC b) kind
 have h0:qkY (wn m) (wn a) (wn b) kind / 2 ^ 32=0:=Nat.div_eq_of_lt hF
 have key:=qgC (σ:=Int×Int) (turn:=qcZ.turn (m,a,b,kind,0,31) ()) (fun i=>(((qkY (wn m) (wn a) (wn b) kind / 2 ^ (32-i):Nat):Int),31-(i:Int))) (0,((qkY (wn m) (wn a) (wn b) kind:Nat):Int),-1) (n:=32) (fun i hi=>?_) ?_ 32 0 (by omega) 40 (by omega)
 ·simp[h0] at key
  exact key
 ·have hk:kk (31-(i:Int))=31-i:=by unfold kk;omega
  have hd:=qNI (qkY (wn m) (wn a) (wn b) kind) (31-i)
  rw[show 31-i+1=32-i by omega] at hd
  have hb:=qOV (b:=wn b) (qdC m) (qdC a) (show 31-i<32 by omega) kind
  have hle:qkY (wn m) (wn a) (wn b) kind / 2 ^ (32-i)≤qkY (wn m) (wn a) (wn b) kind:=Nat.div_le_self _ _
  have ha1:=qwg (wn a) (31-i)
  have hb1:=qwg (wn b) (31-i)
  have hm1:=qwg (wn m) (31-i)
  have e:(bif kind==0 then w64 (1-(bt (wn a) (31-i):Int)) else bif kind==1 then w64 ((bt (wn a) (31-i):Int)*(bt (wn b) (31-i):Int)) else bif kind==2 then imax (bt (wn a) (31-i):Int) (bt (wn b) (31-i):Int) else bif kind==3 then Int.tmod (w64 ((bt (wn a) (31-i):Int)+(bt (wn b) (31-i):Int))) 2 else bif (bt (wn m) (31-i):Int)==1 then(bt (wn a) (31-i):Int) else(bt (wn b) (31-i):Int))=((bt (qkY (wn m) (wn a) (wn b) kind) (31-i):Nat):Int):=by
   rw[hb]
   generalize bt (wn a) (31-i)=p at *
   generalize bt (wn b) (31-i)=q at *
   generalize bt (wn m) (31-i)=r at *
   have hp:p=0∨p=1:=by omega
   have hq:q=0∨q=1:=by omega
   have hr:r=0∨r=1:=by omega
   rcases hp with rfl |rfl<;>rcases hq with rfl |rfl<;>rcases hr with rfl |rfl<;>cases kind==0<;>cases kind==1<;>cases kind==2<;>cases kind==3<;>rfl
  have hbl:=qwg (qkY (wn m) (wn a) (wn b) kind) (31-i)
  have hs:decide (31-(i:Int)≥0)=true:=qJ (by omega)
  simp only[qcZ,PO.val,hs,cond_true,q0,qeQ,Bool.and_self,Bool.or_true,hk]
  rw[e,show 32-(i+1)=31-i by omega,hd]
  generalize bt (qkY (wn m) (wn a) (wn b) kind) (31-i)=q at *
  generalize qkY (wn m) (wn a) (wn b) kind / 2 ^ (32-i)=p at *
  rw[qt (n:=2*(p:Int)) (by omega) (by omega),qt (by omega) (by omega),qt (by omega) (by omega)]
  refine congrArg (fun z=>some (TL.on z)) (Prod.ext ?_ ?_)
  ·show 2*(p:Int)+(q:Int)=((2*p+q:Nat):Int)
   omega
  ·show 31-(i:Int)-1=31-((i+1:Nat):Int)
   omega
 ·have hs:decide ((31:Int)-((32:Nat):Int)≥0)=false:=qS (by omega)
  simp only[qcZ,PO.val,hs,cond_false]
  simp
def qmx (_:qc qgm):Bool:=true
def qd2 (x:qc qgm):Sh.den qi9:=(qkY (wn x.1) (wn x.2.1) (wn x.2.2.1) x.2.2.2:Int)
theorem qvq (x:qc qgm) (_:qmx x=true):(qmc x).val=some (qd2 x):=by
 obtain⟨m,a,b,kind⟩:=x
 unfold qmc PO.val
 have:LoopN.res qcZ (m,a,b,kind,0,31) ()=some (0,((qkY (wn m) (wn a) (wn b) kind:Nat):Int),-1):=qMV m a b kind
 rw[this]
 rfl
def qd8:LoopN where
 M:=[1,5,6]
 T:=[9,10,11,12,13,14,15,16,17,18,19,20]
 D:=[1,6]
 ss:=[.ty (.int .i64),.ty (.int .i64),.ty (.int .i64)]
 hs:=[]
 es:=[.exit 0]
 σ:=(Ty.den (.int .i64))×(Ty.den (.int .i64))
 x0:=fun x _=>(x.2.1,x.2.2)
 put:=fun x _ s=>((x.1,s.1,s.2),())
 fuel:=fun _ _=>40
 turn:=fun x _ s =>
 (.ite (decide (s.2<qK x.1))
  (.ret (.on (w64 (w64 (Int.tdiv s.1 2)+w64 (w64 (Int.tdiv s.1 2147483648)*2147483648)),w64 (s.2+1))))
  (.ret (.out 0 (s.1,s.2))))
abbrev qik:List Ty:=[(.int .i64),(.int .i64)]
abbrev qk8:Sh:=Sh.ty (Ty.int IntKind.i64)
def qnQ (x:qc qik):PO (Sh.den qk8) :=
 (.opt (LoopN.res qd8 (x.2,qp x.1,0) ()) fun p0 =>
  (.ret (p0.2.1)))
theorem qzd {m:Nat} (h:m<4294967296):-2147483648≤sw m∧sw m<2147483648:=by unfold sw;split<;>omega
theorem qTg {m:Nat} (h:m<4294967296):wn (sw m)=m:=by unfold sw wn;split<;>omega
theorem qNa {q:Int} (h:-2147483648≤q∧q<2147483648) (k:Nat):-2147483648≤q / (2 ^ k:Nat)∧q / (2 ^ k:Nat)<2147483648:=by
 induction k with
 |zero=>simpa using h
 |succ k ih =>
  have e:q / ((2 ^ (k+1):Nat):Int)=q / ((2 ^ k:Nat):Int) / 2:=by
   rw[Nat.pow_succ,Int.natCast_mul,Int.ediv_ediv_of_nonneg (Int.natCast_nonneg _)]
   rfl
  rw[e]
  omega
theorem qOl {q:Int} (h:-2147483648≤q∧q<2147483648):wn q / 2+wn q / 2147483648*2147483648=wn (q / 2):=by unfold wn;omega
theorem qQI (a n:Int):qcE (qd8.turn (n,(wn a:Int),0) ()) 40 ((wn a:Int),0)=some (0,((wn (sw (wn a) / (2 ^ kk n:Nat)):Nat):Int),(kk n:Int)):=by
 have hk:=qtp n
 have key:=qgC (σ:=Int×Int) (turn:=qd8.turn (n,(wn a:Int),0) ()) (fun i=>(((wn (sw (wn a) / (2 ^ i:Nat)):Nat):Int),(i:Int))) (0,((wn (sw (wn a) / (2 ^ kk n:Nat)):Nat):Int),(kk n:Int)) (n:=kk n) (fun i hi=>?_) ?_ (kk n) 0 (by omega) 40 (by omega)
 ·simp[qTg (qdC a)] at key
  simp
  exact key
 ·have h1:decide ((i:Int)<(kk n:Int))=true:=qJ (by omega)
  have hr:=qNa (qzd (qdC a)) i
  have e:sw (wn a) / ((2 ^ (i+1):Nat):Int)=sw (wn a) / ((2 ^ i:Nat):Int) / 2:=by
   rw[Nat.pow_succ,Int.natCast_mul,Int.ediv_ediv_of_nonneg (Int.natCast_nonneg _)]
   rfl
  have hst:=qOl hr
  rw[e,←hst]
  have hl:=qdC (sw (wn a) / ((2 ^ i:Nat):Int))
  show(bif decide ((i:Int)<(kk n:Int)) then _ else _)=_
  rw[h1]
  show some (TL.on (w64 (w64 (Int.tdiv ((wn (sw (wn a) / ((2 ^ i:Nat):Int)):Nat):Int) 2)+w64 (w64 (Int.tdiv ((wn (sw (wn a) / ((2 ^ i:Nat):Int)):Nat):Int) 2147483648)*2147483648)),w64 ((i:Int)+1)))=_
  generalize wn (sw (wn a) / ((2 ^ i:Nat):Int))=p at *
  rw[qpS _ _ (by omega),qpS _ _ (by omega),qt (n:=(p:Int) / 2) (by omega) (by omega),qt (n:=(p:Int) / 2147483648) (by omega) (by omega),qt (n:=(p:Int) / 2147483648*2147483648) (by omega) (by omega),qt (by omega) (by omega),qt (by omega) (by omega)]
  congr 2
 ·show(bif decide ((kk n:Int)<(kk n:Int)) then _ else _)=_
  rw[qS (by omega)]
  rfl
def qof (_:qc qik):Bool:=true
def qk7 (x:qc qik):Sh.den qk8:=(wn (sw (wn x.1) / (2 ^ kk x.2:Nat)):Int)
theorem qw7 (x:qc qik) (_:qof x=true):(qnQ x).val=some (qk7 x):=by
 obtain⟨a,n⟩:=x
 unfold qnQ PO.val
 have:LoopN.res qd8 (n,(wn a:Int),0) ()=some (0,((wn (sw (wn a) / (2 ^ kk n:Nat)):Nat):Int),(kk n:Int)):=qQI a n
 rw[show LoopN.res qd8 ((a,n).2,qp (a,n).1,0) ()=_ from this]
 rfl
def qea:LoopN where
 M:=[1,5,6]
 T:=[9,10,11,12,13,14,15,16,17,18,19,20]
 D:=[1,6]
 ss:=[.ty (.int .i64),.ty (.int .i64),.ty (.int .i64)]
 hs:=[]
 es:=[.exit 0]
 σ:=(Ty.den (.int .i64))×(Ty.den (.int .i64))
 x0:=fun x _=>(x.2.1,x.2.2)
 put:=fun x _ s=>((x.1,s.1,s.2),())
 fuel:=fun _ _=>40
 turn:=fun x _ s =>
 (.ite (decide (s.2<qK x.1))
  (.ret (.on (w64 (w64 (Int.tdiv s.1 2)+w64 (Int.tmod s.1 2*2147483648)),w64 (s.2+1))))
  (.ret (.out 0 (s.1,s.2))))
abbrev qia:List Ty:=[(.int .i64),(.int .i64)]
abbrev qkJ:Sh:=Sh.ty (Ty.int IntKind.i64)
def qn2 (x:qc qia):PO (Sh.den qkJ) :=
 (.opt (LoopN.res qea (x.2,qp x.1,0) ()) fun p0 =>
  (.ret (p0.2.1)))
def qpT (m k:Nat):Nat:=m / 2 ^ k+m % 2 ^ k*2 ^ (32-k)
theorem qHR (m:Nat) {k:Nat} (hk:k<32):qpT m k / 2+qpT m k % 2*2147483648=qpT m (k+1):=by
 unfold qpT
 have h1:m / 2 ^ (k+1)=m / 2 ^ k / 2:=by rw[Nat.pow_succ,Nat.div_div_eq_div_mul]
 have h2:m % 2 ^ (k+1)=m % 2 ^ k+2 ^ k*(m / 2 ^ k % 2):=by rw[Nat.pow_succ,Nat.mod_mul]
 obtain⟨j,hj⟩:∃j,32-k=j+1:=⟨31-k,by omega⟩
 have h4:2 ^ k*2 ^ j=2147483648:=by rw[←Nat.pow_add,show k+j=31 by omega]
 rw[h1,h2,hj,show 32-(k+1)=j by omega,Nat.add_mul,Nat.mul_right_comm,h4,Nat.pow_succ,←Nat.mul_assoc]
 generalize m % 2 ^ k*2 ^ j=p
 generalize m / 2 ^ k=q
 omega
theorem qP5 {m k:Nat} (hm:m<4294967296) (hk:k≤32):qpT m k<4294967296:=by
 induction k with
 |zero=>simpa [qpT,Nat.mod_one] using hm
 |succ k ih =>
  rw[←qHR m (by omega)]
  have:=ih (by omega)
  omega
theorem qQl (a n:Int):qcE (qea.turn (n,(wn a:Int),0) ()) 40 ((wn a:Int),0)=some (0,((qpT (wn a) (kk n):Nat):Int),(kk n:Int)):=by
 have hk:=qtp n
 have key:=qgC (σ:=Int×Int) (turn:=qea.turn (n,(wn a:Int),0) ()) (fun i=>(((qpT (wn a) i:Nat):Int),(i:Int))) (0,((qpT (wn a) (kk n):Nat):Int),(kk n:Int)) (n:=kk n) (fun i hi=>?_) ?_ (kk n) 0 (by omega) 40 (by omega)
 ·rw[show qpT (wn a) 0=wn a by simp[qpT,Nat.mod_one]] at key
  exact key
 ·have h1:decide ((i:Int)<(kk n:Int))=true:=qJ (by omega)
  have hst:=qHR (wn a) (show i<32 by omega)
  have hl:=qP5 (qdC a) (show i≤32 by omega)
  rw[←hst]
  show(bif decide ((i:Int)<(kk n:Int)) then _ else _)=_
  rw[h1]
  show some (TL.on (w64 (w64 (Int.tdiv ((qpT (wn a) i:Nat):Int) 2)+w64 (Int.tmod ((qpT (wn a) i:Nat):Int) 2*2147483648)),w64 ((i:Int)+1)))=_
  generalize qpT (wn a) i=p at *
  rw[qpS _ _ (by omega),qmh _ _ (by omega),qt (n:=(p:Int) / 2) (by omega) (by omega),qt (n:=(p:Int) % 2*2147483648) (by omega) (by omega),qt (by omega) (by omega),qt (by omega) (by omega)]
  rfl
 ·show(bif decide ((kk n:Int)<(kk n:Int)) then _ else _)=_
  rw[qS (by omega)]
  rfl
def qnU (_:qc qia):Bool:=true
def qkx (x:qc qia):Sh.den qkJ:=((wn x.1 / 2 ^ kk x.2+wn x.1 % 2 ^ kk x.2*2 ^ (32-kk x.2):Nat):Int)
theorem qwV (x:qc qia) (_:qnU x=true):(qn2 x).val=some (qkx x):=by
 obtain⟨a,n⟩:=x
 unfold qn2 PO.val
 have:LoopN.res qea (n,(wn a:Int),0) ()=some (0,((qpT (wn a) (kk n):Nat):Int),(kk n:Int)):=qQl a n
 rw[show LoopN.res qea ((a,n).2,qp (a,n).1,0) ()=_ from this]
 rfl
end Go.Av
end
section
namespace Go.Av
open Go
abbrev qh1:List Ty:=[(.int .i64)]
abbrev qlb:Sh:=Sh.ty (Ty.int IntKind.i64)
def qsl (x:qc qh1):PO (Sh.den qlb) :=
 (.ret (qd2 (0,x,0,0)))
def qoa (_:qc qh1):Bool:=true
def qie (x:qc qh1):Sh.den qlb:=((4294967295-wn x:Nat):Int)
theorem qw4 (x:qc qh1) (_:qoa x=true):(qsl x).val=some (qie x):=rfl
abbrev qio:List Ty:=[(.int .i64),(.int .i64)]
abbrev qkT:Sh:=Sh.ty (Ty.int IntKind.i64)
def qsj (x:qc qio):PO (Sh.den qkT) :=
 (.ret (qd2 (0,x.1,x.2,1)))
def qnJ (_:qc qio):Bool:=true
def qib (x:qc qio):Sh.den qkT:=((wn x.1 &&& wn x.2:Nat):Int)
theorem qwY (x:qc qio) (_:qnJ x=true):(qsj x).val=some (qib x):=rfl
abbrev qiZ:List Ty:=[(.int .i64),(.int .i64)]
abbrev qlD:Sh:=Sh.ty (Ty.int IntKind.i64)
def qsV (x:qc qiZ):PO (Sh.den qlD) :=
 (.ret (qd2 (0,x.1,x.2,2)))
def qoZ (_:qc qiZ):Bool:=true
def qlC (x:qc qiZ):Sh.den qlD:=((wn x.1 |||wn x.2:Nat):Int)
theorem qxb (x:qc qiZ) (_:qoZ x=true):(qsV x).val=some (qlC x):=rfl
abbrev qip:List Ty:=[(.int .i64),(.int .i64)]
abbrev qlf:Sh:=Sh.ty (Ty.int IntKind.i64)
def qss (x:qc qip):PO (Sh.den qlf) :=
 (.ret (qd2 (0,x.1,x.2,3)))
def qon (_:qc qip):Bool:=true
def qkB (x:qc qip):Sh.den qlf:=((wn x.1 ^^^ wn x.2:Nat):Int)
theorem qwP (x:qc qip) (_:qon x=true):(qss x).val=some (qkB x):=rfl
abbrev qh4:List Ty:=[(.int .i64),(.int .i64)]
abbrev qkw:Sh:=Sh.ty (Ty.int IntKind.i64)
def qsn (x:qc qh4):PO (Sh.den qkw) :=
 (.ite (qb5 (qK x.2)&&true)
  (.ret (qhV (x.1,qbg (qK x.2))))
  .fail)
theorem qB3 (n:Int):2 ^ kk n<4294967296:=Nat.pow_lt_pow_right (by omega) (qtp n)
def qnG (_:qc qh4):Bool:=true
def qkO (x:qc qh4):Sh.den qkw:=((wn x.1*2 ^ kk x.2 % 4294967296:Nat):Int)
theorem qw6 (x:qc qh4) (_:qnG x=true):(qsn x).val=some (qkO x):=by
 obtain⟨a,n⟩:=x
 show(bif qb5 (qK n)&&true then some ((wn a*wn (qbg (qK n)) % 4294967296:Nat):Int) else none)=some ((wn a*2 ^ kk n % 4294967296:Nat):Int)
 rw[quy,qAh,qgu (qB3 n)]
 rfl
abbrev qhU:List Ty:=[(.int .i64),(.int .i64)]
abbrev qlj:Sh:=Sh.ty (Ty.int IntKind.i64)
def qsy (x:qc qhU):PO (Sh.den qlj) :=
 (.ite (qb5 (qK x.2)&&!qbg (qK x.2)==0)
  (.ret (w64 (Int.tdiv (qp x.1) (qbg (qK x.2)))))
  .fail)
def qnT (_:qc qhU):Bool:=true
def qkL (x:qc qhU):Sh.den qlj:=((wn x.1 / 2 ^ kk x.2:Nat):Int)
theorem qwX (x:qc qhU) (_:qnT x=true):(qsy x).val=some (qkL x):=by
 obtain⟨a,n⟩:=x
 have hl:=qdC a
 have hd:wn a / 2 ^ kk n≤wn a:=Nat.div_le_self _ _
 show(bif qb5 (qK n)&&!(qbg (qK n)==(0:Int)) then some (w64 (Int.tdiv (wn a:Int) (qbg (qK n)))) else none)=some ((wn a / 2 ^ kk n:Nat):Int)
 rw[quy,qAh,qBE,qpS _ _ (by omega),←Int.natCast_ediv]
 generalize wn a / 2 ^ kk n=q at hd
 rw[qt (by omega) (by omega)]
 rfl
abbrev qhw:List Ty:=[(.int .i64),(.int .i64)]
abbrev qj6:Sh:=Sh.ty (Ty.int IntKind.i64)
def qrj (x:qc qhw):PO (Sh.den qj6) :=
 (.ite (qb5 (qK x.2))
  (.ite (q0 (x.1,x.2)==1)
  (.ret (w64 (qp x.1-qbg (qK x.2))))
  (.ret (w64 (qp x.1+qbg (qK x.2)))))
  .fail)
def flip (m j:Nat):Nat:=bif bt m j==1 then m-2 ^ j else m+2 ^ j
def qnh (_:qc qhw):Bool:=true
def qen (x:qc qhw):Sh.den qj6:=(flip (wn x.1) (kk x.2):Int)
theorem qBH {m j:Nat} (h:bt m j=1):2 ^ j≤m:=by
 refine Nat.le_of_not_lt fun hlt=>?_
 unfold bt at h
 rw[Nat.div_eq_of_lt hlt] at h
 cases h
theorem qv2 (x:qc qhw) (_:qnh x=true):(qrj x).val=some (qen x):=by
 obtain⟨a,n⟩:=x
 have hl:=qdC a
 have hp:=qB3 n
 show(bif qb5 (qK n) then(bif ((bt (wn a) (kk n):Nat):Int)==1 then some (w64 ((wn a:Int)-qbg (qK n))) else some (w64 ((wn a:Int)+qbg (qK n)))) else none)=some ((flip (wn a) (kk n):Nat):Int)
 rw[quy,qAh]
 have hb:=qwg (wn a) (kk n)
 have h1:bt (wn a) (kk n)=0∨bt (wn a) (kk n)=1:=by omega
 unfold flip
 rcases h1 with h1 |h1
 ·rw[h1]
  generalize 2 ^ kk n=q at *
  show some (w64 ((wn a:Int)+(q:Int)))=some ((wn a+q:Nat):Int)
  rw[qt (by omega) (by omega)]
  rfl
 ·have hle:=qBH h1
  rw[h1]
  generalize 2 ^ kk n=q at *
  show some (w64 ((wn a:Int)-(q:Int)))=some ((wn a-q:Nat):Int)
  rw[qt (by omega) (by omega),Int.ofNat_sub hle]
end Go.Av
end
section
namespace Go.Av
open Go
def qgQ (l:List Int):List Int:=l.map fun n=>(wn n:Int)
theorem qsv (l:List Int):(qgQ l).length=l.length:=by simp[qgQ]
def qli (l:List Int) (k:Nat):List Int:=(qgQ l).take k++l.drop k
theorem qLQ (l:List Int) {k:Nat} (h:k<l.length):(qli l k).getD k 0=l[k]:=by
 unfold qli
 have h1:((qgQ l).take k).length=k:=by rw[List.length_take,qsv];omega
 rw[List.getD_eq_getElem?_getD,List.getElem?_append_right (by omega),h1,Nat.sub_self,List.getElem?_drop,Nat.add_zero,List.getElem?_eq_getElem h]
 rfl
theorem qyG (l:List Int) {k:Nat} (h:k<l.length):(qli l k).set k (wn l[k]:Int)=qli l (k+1):=by
 unfold qli
 have h1:((qgQ l).take k).length=k:=by rw[List.length_take,qsv];omega
 rw[List.set_append_right _ _ (by omega),h1,Nat.sub_self,List.drop_eq_getElem_cons h,List.set_cons_zero,List.take_succ_eq_append_getElem (by rw[qsv];omega),List.append_assoc]
 simp[qgQ]
theorem qAJ (l:List Int) {k:Nat} (h:l.length≤k):qli l k=qgQ l:=by
 unfold qli
 rw[List.take_of_length_le (by rw[qsv];omega),List.drop_of_length_le h,List.append_nil]
theorem qyH (l:List Int):qli l 0=l:=by simp[qli]
abbrev qo6:List Ty:=[qC,(.int .i64)]
abbrev qr5:Sh:=Sh.ty Ty.bool
def qr6 (x:qc qo6):PO (Sh.den qr5) :=
 (.ite (decide (x.2<0)||decide (x.2 > 13))
  (.ret (false))
  (.ret ((bif q8 IntKind.i64 x.2 1==0 then x.1.2.2.2.1 else bif q8 IntKind.i64 x.2 1==1 then x.1.2.2.2.2.1 else bif q8 IntKind.i64 x.2 1==2 then x.1.2.2.1 else bif q8 IntKind.i64 x.2 1==3 then x.1.2.2.2.2.2.1 else bif q8 IntKind.i64 x.2 1==4 then x.1.2.2.2.2.1&&!x.1.2.2.2.1 else bif q8 IntKind.i64 x.2 1==5 then x.1.2.2.1==x.1.2.2.2.2.2.1 else q8 IntKind.i64 x.2 1==6&&(!x.1.2.2.2.1&&x.1.2.2.1==x.1.2.2.2.2.2.1))==(qbF IntKind.i64 x.2 1==0))))
def quL (_:qc qo6):Bool:=true
def qjy (x:qc qo6):Sh.den qr5:=(qr6 x).qP default
theorem qEK (x:qc qo6) (_:quL x=true):(qr6 x).val=some (qjy x):=PO.qb1 default (by simp[qr6,PO.sure])
abbrev qgS:List Ty:=[qC,(.int .i64)]
abbrev qjl:Sh:=Sh.ty Ty.bool
def qgx (x:qc qgS):PO (Sh.den qjl) :=
 (.ite (x.2==0)
  (.ret (x.1.2.2.2.1))
  (.ite (x.2==1)
  (.ret (!x.1.2.2.2.1))
  (.ite (x.2==2)
   (.ret (x.1.2.2.2.2.1))
   (.ite (x.2==3)
   (.ret (!x.1.2.2.2.2.1))
   (.ite (x.2==4)
    (.ret (x.1.2.2.1))
    (.ite (x.2==5)
    (.ret (!x.1.2.2.1))
    (.ite (x.2==6)
     (.ret (x.1.2.2.2.2.2.1))
     (.ite (x.2==7)
     (.ret (!x.1.2.2.2.2.2.1))
     (.ite (x.2==8)
      (.ret (x.1.2.2.2.2.1&&!x.1.2.2.2.1))
      (.ite (x.2==9)
      (.ret (!x.1.2.2.2.2.1||x.1.2.2.2.1))
      (.ite (x.2==10)
       (.ret (x.1.2.2.1==x.1.2.2.2.2.2.1))
       (.ite (x.2==11)
       (.ret (!x.1.2.2.1==x.1.2.2.2.2.2.1))
       (.ite (x.2==12)
        (.ret (!x.1.2.2.2.1&&x.1.2.2.1==x.1.2.2.2.2.2.1))
        (.ite (x.2==13)
        (.ret (x.1.2.2.2.1||!x.1.2.2.1==x.1.2.2.2.2.2.1))
        (.ret (false))))))))))))))))
def qmg (_:qc qgS):Bool:=true
def qe7 (x:qc qgS):Sh.den qjl:=(qgx x).qP default
theorem qu6 (x:qc qgS) (_:qmg x=true):(qgx x).val=some (qe7 x):=PO.qb1 default (by simp[qgx,PO.sure])
abbrev qgF:List Ty:=[qC,q9]
abbrev qjd:Sh:=Sh.ty Ty.bool
def qgc (x:qc qgF):PO (Sh.den qjd) :=
 (.ite (x.2.1==24||(x.2.1==25||true))
  (.ret (x.2.1==24||x.2.1==25&&qe7 (x.1,x.2.2.2.2.2.2.2.1)))
  .fail)
def qmz (_:qc qgF):Bool:=true
def qed (x:qc qgF):Sh.den qjd:=(qgc x).qP default
theorem qvi (x:qc qgF) (_:qmz x=true):(qgc x).val=some (qed x):=PO.qrB default (by simp[qgc,PO.qxA])
abbrev qqJ:List Ty:=[qC,q9]
abbrev qtj:Sh:=Sh.ty Ty.bool
def qox (x:qc qqJ):PO (Sh.den qtj) :=
 (.ite (x.2.1==24||(x.2.1==25||true))
  (.ret (x.2.1==24||x.2.1==25&&qjy (x.1,x.2.2.2.2.2.2.2.1)))
  .fail)
def qwe (_:qc qqJ):Bool:=true
def qe4 (x:qc qqJ):Sh.den qtj:=(qox x).qP default
theorem qIOz (x:qc qqJ) (_:qwe x=true):(qox x).val=some (qe4 x):=PO.qrB default (by simp[qox,PO.qxA])
def qkp:LoopN where
 M:=[1,2,6,7]
 T:=[3,4,8,9,10,11,12,13,14,15,16]
 D:=[6,7]
 ss:=[.box 0 0,.box 1 0,.ty (.arr 15 (.int .i64)),.ty (.int .i64)]
 hs:=[.ty qC,.ty qC]
 es:=[.exit 0]
 σ:=(Ty.den (.int .i64))×(Sh.den (.ty qC))×(Sh.den (.ty qC))
 x0:=fun x y=>(x.2.2.2,y.1,y.2)
 put:=fun x _ s=>((x.1,x.2.1,x.2.2.1,s.1),(s.2.1,s.2.2))
 fuel:=fun _ _=>20
 turn:=fun x _ s =>
 (.ite (decide (s.1<15))
  (.ite (inRange s.1 15)
  (.ite (inRange s.1 15)
   (.ret (.on (w64 (s.1+1),(List.set s.2.1.1 (Int.toNat s.1) (qbb (List.getD x.2.2.1 (Int.toNat s.1) (Ty.dflt (Ty.int IntKind.i64)))),s.2.1.2),s.2.2)))
   .fail)
  .fail)
  (.ret (.out 0 (s.1,s.2.1,s.2.2))))
def qel:LoopN where
 M:=[1,2,3]
 T:=[4,5,6,7,8,9,10,11,12,13,14,15]
 D:=[3]
 ss:=[.box 0 0,.box 1 0,.ty (.int .i64)]
 hs:=[.ty qC,.ty qC]
 es:=[.exit 0]
 σ:=(Ty.den (.int .i64))×(Sh.den (.ty qC))×(Sh.den (.ty qC))
 x0:=fun x y=>(x.2.2,y.1,y.2)
 put:=fun x _ s=>((x.1,x.2.1,s.1),(s.2.1,s.2.2))
 fuel:=fun _ _=>20
 turn:=fun _ _ s =>
 (.ite (decide (s.1<15))
  (.ite (inRange s.1 15)
  (.ite (inRange s.1 15)
   (.ret (.on (w64 (s.1+1),(List.set s.2.1.1 (Int.toNat s.1) (qp (List.getD s.2.1.1 (Int.toNat s.1) (Ty.dflt (Ty.int IntKind.i64)))),s.2.1.2),s.2.2)))
   .fail)
  .fail)
  (.ret (.out 0 (s.1,s.2.1,s.2.2))))
abbrev qo3:List Ty:=[qC]
abbrev qrY:Sh:=Sh.ty qC
def quH (x:qc qo3):PO (Sh.den qrY) :=
 (.opt (LoopN.res qkp ((),(),x.1,0) (x,[0,0,0,0,0,0,0,0,0,0,0,0,0,0,0],0,false,false,false,false,())) fun p0 =>
  (.ret ((p0.2.2.1.1,qbb p0.2.2.1.2.1,p0.2.2.1.2.2))))
theorem qNz (r:List Int) (t u:qC.den) (hr:r.length=15) (ht:t.1=r):qcE (qkp.turn ((),(),r,0) (t,u)) 20 (0,t,u)=some (0,15,(qgQ r,t.2),u):=by
 have key:=qgC (σ:=Int×qC.den×qC.den) (turn:=qkp.turn ((),(),r,0) (t,u)) (fun i=>((i:Int),(qli r i,t.2),u)) (0,15,(qgQ r,t.2),u) (n:=15) (fun i hi=>?_) ?_ 15 0 (by omega) 20 (by omega)
 ·simp only[qyH] at key
  rw[←ht] at key ⊢
  exact key
 ·have h1:decide ((i:Int)<15)=true:=qJ (by omega)
  have hi':i<r.length:=by omega
  show(bif decide ((i:Int)<15) then(bif inRange (i:Int) 15 then(bif inRange (i:Int) 15 then some (TL.on (w64 ((i:Int)+1),((qli r i).set (Int.toNat (i:Int)) (wn (r.getD (Int.toNat (i:Int)) 0):Int),t.2),u)) else none) else none) else _)=_
  rw[h1,inR hi,Int.toNat_natCast,qgY r _ hi',qyG r hi',qt (by omega) (by omega)]
  rfl
 ·show(bif decide (((15:Nat):Int)<15) then _ else _)=_
  rw[qS (by omega),qAJ r (by omega)]
  rfl
def qjz (x:qc qo3):Bool:=decide (List.length x.1=15)
def qcq (x:qc qo3):Sh.den qrY:=(qgQ x.1,(wn x.2.1:Int),x.2.2)
theorem qEP (x:qc qo3) (h:qjz x=true):(quH x).val=some (qcq x):=by
 have h15:List.length x.1=15:=of_decide_eq_true h
 unfold quH PO.val
 have:LoopN.res qkp ((),(),x.1,0) (x,[0,0,0,0,0,0,0,0,0,0,0,0,0,0,0],0,false,false,false,false,())=some (0,(15:Int),(qgQ x.1,x.2),([0,0,0,0,0,0,0,0,0,0,0,0,0,0,0],0,false,false,false,false,())):=qNz x.1 x _ h15 rfl
 rw[this]
 rfl
abbrev qgT:List Ty:=[qC]
abbrev qi4:Sh:=Sh.ty qC
def qml (x:qc qgT):PO (Sh.den qi4) :=
 (.opt (LoopN.res qel ((),(),0) (x,[0,0,0,0,0,0,0,0,0,0,0,0,0,0,0],0,false,false,false,false,())) fun p0 =>
  (.ret ((p0.2.2.1.1,qp p0.2.2.1.2.1,p0.2.2.1.2.2))))
theorem qC3 (r:List Int) (t u:qC.den) (hr:r.length=15) (ht:t.1=r):qcE (qel.turn ((),(),0) (t,u)) 20 (0,t,u)=some (0,15,(qgQ r,t.2),u):=by
 have key:=qgC (σ:=Int×qC.den×qC.den) (turn:=qel.turn ((),(),0) (t,u)) (fun i=>((i:Int),(qli r i,t.2),u)) (0,15,(qgQ r,t.2),u) (n:=15) (fun i hi=>?_) ?_ 15 0 (by omega) 20 (by omega)
 ·simp only[qyH] at key
  rw[←ht] at key ⊢
  exact key
 ·have h1:decide ((i:Int)<15)=true:=qJ (by omega)
  have hi':i<r.length:=by omega
  show(bif decide ((i:Int)<15) then(bif inRange (i:Int) 15 then(bif inRange (i:Int) 15 then some (TL.on (w64 ((i:Int)+1),((qli r i).set (Int.toNat (i:Int)) (wn ((qli r i).getD (Int.toNat (i:Int)) 0):Int),t.2),u)) else none) else none) else _)=_
  rw[h1,inR hi,Int.toNat_natCast,qLQ r hi',qyG r hi',qt (by omega) (by omega)]
  rfl
 ·show(bif decide (((15:Nat):Int)<15) then _ else _)=_
  rw[qS (by omega),qAJ r (by omega)]
  rfl
def qgn (x:qc qgT):Bool:=decide (List.length x.1=15)
def qf (x:qc qgT):Sh.den qi4:=(qgQ x.1,(wn x.2.1:Int),x.2.2)
theorem qvz (x:qc qgT) (h:qgn x=true):(qml x).val=some (qf x):=by
 have h15:List.length x.1=15:=of_decide_eq_true h
 unfold qml PO.val
 have:LoopN.res qel ((),(),0) (x,[0,0,0,0,0,0,0,0,0,0,0,0,0,0,0],0,false,false,false,false,())=some (0,(15:Int),(qgQ x.1,x.2),([0,0,0,0,0,0,0,0,0,0,0,0,0,0,0],0,false,false,false,false,())):=qC3 x.1 x _ h15 rfl
 rw[this]
 rfl
end Go.Av
end
section
namespace Go.Av
open Go
def qep (m f a k:Nat):Nat:=2 ^ a*(2 ^ k*(m / 2 ^ (a+k))+f % 2 ^ k)+m % 2 ^ a
theorem qyZ (m f a k j:Nat):(qep m f a k).testBit j=if j<a then m.testBit j else if j<a+k then f.testBit (j-a) else m.testBit j:=by
 unfold qep
 rw[Nat.testBit_two_pow_mul_add _ (Nat.mod_lt _ (Nat.two_pow_pos a))]
 split
 ·rename_i h
  rw[Nat.testBit_mod_two_pow,decide_eq_true h,Bool.true_and]
 ·rename_i h
  rw[Nat.testBit_two_pow_mul_add _ (Nat.mod_lt _ (Nat.two_pow_pos k))]
  split
  ·rename_i h2
   rw[if_pos (by omega),Nat.testBit_mod_two_pow,decide_eq_true h2,Bool.true_and]
  ·rename_i h2
   rw[if_neg (by omega),Nat.testBit_div_two_pow]
   congr 1
   omega
theorem qRc {m f a k:Nat} (hm:m<4294967296) (h:a+k≤32):qep m f a k<4294967296:=by
 refine Nat.lt_pow_two_of_testBit (n:=32) _ fun j hj=>?_
 rw[qyZ,if_neg (by omega),if_neg (by omega)]
 exact Nat.testBit_lt_two_pow (Nat.lt_of_lt_of_le hm (Nat.pow_le_pow_right (n:=2) (by omega) hj))
theorem qy7 (a k j:Nat):((2 ^ k-1)*2 ^ a).testBit j=(decide (a≤j)&&decide (j<a+k)):=by
 rw[Nat.testBit_mul_two_pow,Nat.testBit_two_pow_sub_one]
 by_cases h:a≤j
 ·rw[show decide (j-a<k)=decide (j<a+k) from decide_eq_decide.2 (by omega)]
 ·rw[qS h];rfl
theorem qJC {a k:Nat} (h:a+k≤32):(2 ^ k-1)*2 ^ a<4294967296:=by
 refine Nat.lt_pow_two_of_testBit (n:=32) _ fun j hj=>?_
 rw[qy7,qS (show ¬j<a+k by omega),Bool.and_false]
theorem qLr {m f a k:Nat} (hm:m<4294967296) (h:a+k≤32):(f*2 ^ a % 4294967296 &&& (2 ^ k-1)*2 ^ a) |||(m &&& (4294967295-(2 ^ k-1)*2 ^ a))=qep m f a k:=by
 refine Nat.eq_of_testBit_eq fun j=>?_
 rw[qyZ,Nat.testBit_or,Nat.testBit_and,Nat.testBit_and,qy7,show 4294967295-(2 ^ k-1)*2 ^ a=2 ^ 32-((2 ^ k-1)*2 ^ a+1) by omega,Nat.testBit_two_pow_sub_succ (qJC h),qy7,show(4294967296:Nat)=2 ^ 32 from rfl,Nat.testBit_mod_two_pow,Nat.testBit_mul_two_pow]
 by_cases h32:j<32
 ·by_cases ha:j<a
  ·simp[ha,h32,show ¬a≤j by omega]
  ·by_cases hk:j<a+k
   ·simp[ha,h32,hk,show a≤j by omega]
   ·simp[ha,h32,hk,show a≤j by omega]
 ·have hz:m.testBit j=false:=Nat.testBit_lt_two_pow (Nat.lt_of_lt_of_le hm (Nat.pow_le_pow_right (n:=2) (by omega) (show 32≤j by omega)))
  have ha:¬j<a:=by omega
  have hk:¬j<a+k:=by omega
  simp[h32,hz,ha,hk]
abbrev qnF:List Ty:=[(.int .i64),(.int .i64),(.int .i64),(.int .i64)]
abbrev qqt:Sh:=Sh.ty (Ty.int IntKind.i64)
def qtK (x:qc qnF):PO (Sh.den qqt) :=
 (.ite (!decide (x.2.2.2<0)&&(!decide (x.2.2.1<0)&&true))
  (.ret (qmV (qbb (qz IntKind.i64 (w64 (qz IntKind.i64 1 x.2.2.2-1)) x.2.2.1),qot (x.2.1,x.2.2.1),x.1)))
  .fail)
def qgb (x:qc qnF):Bool:=decide ((0:Int)≤x.2.2.1)&&(decide ((0:Int)≤x.2.2.2)&&(decide ((x.2.2.1:Int)+x.2.2.2≤32)&&decide ((x.2.2.1:Int)<32)))
def qjG (x:qc qnF):Sh.den qqt:=(qep (wn x.1) (wn x.2.1) (Int.toNat x.2.2.1) (Int.toNat x.2.2.2):Int)
theorem qLx (m f:Int) (a k:Nat) (h:a+k≤32) (ha:a<32):(qtK (m,f,(a:Int),(k:Int))).val=some ((qep (wn m) (wn f) a k:Nat):Int):=by
 have h1:decide ((k:Int)<0)=false:=qS (by omega)
 have h2:decide ((a:Int)<0)=false:=qS (by omega)
 have hp:2 ^ k≤2 ^ 32:=qeM (by omega)
 have hk1:qz .i64 1 (k:Int)=((2 ^ k:Nat):Int):=by
  rw[qrH _ _ (by omega),Int.one_mul,show(2:Int) ^ k=((2 ^ k:Nat):Int) by simp]
  exact qrs (by omega)
 have hpos:=Nat.two_pow_pos k
 have hm1:w64 (((2 ^ k:Nat):Int)-1)=((2 ^ k-1:Nat):Int):=by
  generalize 2 ^ k=q at *
  rw[qt (by omega) (by omega)]
  omega
 have hml:=qJC h
 have hkk:kk (a:Int)=a:=by unfold kk;omega
 show(bif !decide ((k:Int)<0)&&(!decide ((a:Int)<0)&&true) then some (((wn ((wn f*2 ^ kk (a:Int) % 4294967296:Nat):Int) &&& wn ((wn (qz .i64 (w64 (qz .i64 1 (k:Int)-1)) (a:Int)):Nat):Int)) |||(wn m &&& (4294967295-wn ((wn (qz .i64 (w64 (qz .i64 1 (k:Int)-1)) (a:Int)):Nat):Int))):Nat):Int) else none)=_
 rw[h1,h2,hk1,hm1,qHM _ _ (by omega),hkk,Nat.mod_eq_of_lt hml,qgu (Nat.mod_lt _ (by omega)),qgu hml,qLr (qdC m) h]
 rfl
theorem qCH (x:qc qnF) (h:qgb x=true):(qtK x).val=some (qjG x):=by
 obtain⟨m,f,a,k⟩:=x
 simp only[qgb,Bool.and_eq_true,decide_eq_true_eq] at h
 obtain⟨h1,h2,h3,h4⟩:=h
 obtain⟨a,rfl⟩:=Int.eq_ofNat_of_zero_le h1
 obtain⟨k,rfl⟩:=Int.eq_ofNat_of_zero_le h2
 have h3':(a:Int)+(k:Int)≤32:=h3
 have h4':(a:Int)<32:=h4
 exact qLx m f a k (by omega) (by omega)
abbrev qmX:List Ty:=[(.int .i64),(.int .i64),(.int .i64)]
abbrev qpu:Sh:=Sh.ty (Ty.int IntKind.i64)
def qmT (x:qc qmX):PO (Sh.den qpu) :=
 (.ite (x.1==5)
  (.ret (qot (x.2.1,x.2.2)))
  (.ite (x.1==6)
  (.ret (qld (x.2.1,x.2.2)))
  (.ite (x.1==7)
   (.ret (qqd (x.2.1,x.2.2)))
   (.ret (qqC (x.2.1,x.2.2))))))
def qsP (_:qc qmX):Bool:=true
def qmN (x:qc qmX):Sh.den qpu:=(qmT x).qP default
theorem qBr (x:qc qmX) (_:qsP x=true):(qmT x).val=some (qmN x):=PO.qb1 default (by simp[qmT,PO.sure])
abbrev qsu:List Ty:=[(.int .i64),(.int .i64),(.int .i64)]
abbrev quu:Sh:=Sh.ty (Ty.int IntKind.i64)
def qse (x:qc qsu):PO (Sh.den quu) :=
 (.ite (x.1==10)
  (.ret (qk6 (x.2.1,x.2.2)))
  (.ite (x.1==11)
  (.ret (qk6 (x.2.1,qgN x.2.2)))
  (.ite (x.1==12)
   (.ret (qkv (x.2.1,x.2.2)))
   (.ite (x.1==13)
   (.ret (qhP (x.2.1,x.2.2)))
   (.ite (x.1==14)
    (.ret (qju (x.2.1,x.2.2)))
    (.ite (x.1==15)
    (.ret (qja (x.2.1,x.2.2)))
    (.ret (qlk (x.2.1,x.2.2)))))))))
def qxw (_:qc qsu):Bool:=true
def qsm (x:qc qsu):Sh.den quu:=(qse x).qP default
theorem qLk (x:qc qsu) (_:qxw x=true):(qse x).val=some (qsm x):=PO.qb1 default (by simp[qse,PO.sure])
abbrev qmZ:List Ty:=[qC,(.int .i64),(.int .i64)]
abbrev qpI:Sh:=Sh.ty qC
def qpJ (x:qc qmZ):PO (Sh.den qpI) :=
 (.ret ((x.1.1,x.1.2.1,qoW (qja (x.2.1,x.2.2),31)==1,qja (x.2.1,x.2.2)==0,decide (x.2.1≥x.2.2),qoW (qk6 (qhP (x.2.1,x.2.2),qhP (x.2.1,qja (x.2.1,x.2.2))),31)==1,x.1.2.2.2.2.2.2)))
def qsA (_:qc qmZ):Bool:=true
def qg1 (x:qc qmZ):Sh.den qpI:=(qpJ x).qP default
theorem qBe (x:qc qmZ) (_:qsA x=true):(qpJ x).val=some (qg1 x):=PO.qb1 default (by simp[qpJ,PO.sure])
abbrev qfY:List Ty:=[(.int .i64)]
abbrev qiD:Sh:=Sh.ty (Ty.int IntKind.i64)
def qf7 (x:qc qfY):PO (Sh.den qiD) :=
 (.ite (decide (x≥2147483648))
  (.ret (w64 (x-4294967296)))
  (.ret (x)))
def qlG (_:qc qfY):Bool:=true
def qbn (x:qc qfY):Sh.den qiD:=(qf7 x).qP default
theorem quS (x:qc qfY) (_:qlG x=true):(qf7 x).val=some (qbn x):=PO.qb1 default (by simp[qf7,PO.sure])
def qeY:LoopN where
 M:=[0,1,2,3,9]
 T:=[10,11,12,13,14,15,16,17,18,19,20,21,22,23,24,25,26,27,28]
 D:=[1,2,3,9]
 ss:=[.ty (.int .i64),.ty (.int .i64),.ty (.int .i64),.ty (.int .i64),.ty (.int .i64)]
 hs:=[]
 es:=[.exit 0]
 σ:=(Ty.den (.int .i64))×(Ty.den (.int .i64))
 x0:=fun x _=>(x.1,x.2.2.2.2)
 put:=fun x _ s=>((s.1,x.2.1,x.2.2.1,x.2.2.2.1,s.2),())
 fuel:=fun _ _=>40
 turn:=fun x _ s =>
 (.ite (decide (s.2<x.2.2.2.1))
  (.ite (q0 (s.1,w64 (x.2.2.1+s.2)) != q0 (x.2.1,s.2)||true)
  (.ret (.on (bif q0 (s.1,w64 (x.2.2.1+s.2)) != q0 (x.2.1,s.2) then qen (s.1,w64 (x.2.2.1+s.2)) else s.1,w64 (s.2+1))))
  .fail)
  (.ret (.out 0 (s.1,s.2))))
abbrev qhW:List Ty:=[(.int .i64),(.int .i64),(.int .i64),(.int .i64)]
abbrev qkZ:Sh:=Sh.ty (Ty.int IntKind.i64)
def qob (x:qc qhW):PO (Sh.den qkZ) :=
 (.opt (LoopN.res qeY (x.1,x.2.1,x.2.2.1,x.2.2.2,0) ()) fun p0 =>
  (.ret (p0.2.1)))
theorem qNh (m f a:Nat):qep m f a 0=m:=by
 unfold qep
 rw[Nat.pow_zero,Nat.one_mul,Nat.mod_one,Nat.add_zero,Nat.add_zero]
 exact Nat.div_add_mod m (2 ^ a)
theorem qQA (m f a k:Nat):bt (qep m f a k) (a+k)=bt m (a+k):=by
 rw[qhb,qhb,qyZ,if_neg (by omega),if_neg (by omega)]
theorem qMN (m f a k:Nat):qep m f a (k+1)=bif bt (qep m f a k) (a+k) != bt f k then flip (qep m f a k) (a+k) else qep m f a k:=by
 have e1:m / 2 ^ (a+k)=2*(m / 2 ^ (a+(k+1)))+bt m (a+k):=qNI m (a+k)
 have e2:f % 2 ^ (k+1)=f % 2 ^ k+2 ^ k*bt f k:=by unfold bt;rw[Nat.pow_succ,Nat.mod_mul]
 have hb:=qwg m (a+k)
 have hf:=qwg f k
 have key:qep m f a (k+1)+2 ^ (a+k)*bt m (a+k)=qep m f a k+2 ^ (a+k)*bt f k:=by
  have e3:2 ^ (a+k)=2 ^ a*2 ^ k:=Nat.pow_add 2 a k
  unfold qep
  rw[e1,e2]
  generalize m / 2 ^ (a+(k+1))=q
  rw[Nat.pow_succ,e3]
  grind
 have hbt:=qQA m f a k
 have hle:bt (qep m f a k) (a+k)=1→2 ^ (a+k)≤qep m f a k:=qBH
 unfold flip
 rw[hbt] at hle ⊢
 have h1:bt m (a+k)=0∨bt m (a+k)=1:=by omega
 have h2:bt f k=0∨bt f k=1:=by omega
 rcases h1 with h1 |h1<;>rcases h2 with h2 |h2
 ·rw[h1,h2] at key ⊢
  simpa using key
 ·rw[h1,h2] at key ⊢
  simpa using key
 ·have:=hle h1
  rw[h1,h2] at key ⊢
  simp at key ⊢
  omega
 ·rw[h1,h2] at key ⊢
  simpa using key
def qd0 (x:qc qhW):Bool:=(decide ((0:Int)≤x.1)&&decide ((x.1:Int)<4294967296))&&(decide ((0:Int)≤x.2.2.1)&&(decide ((0:Int)≤x.2.2.2)&&decide ((x.2.2.1:Int)+x.2.2.2≤32)))
def qfH (x:qc qhW):Sh.den qkZ:=(qep (wn x.1) (wn x.2.1) (Int.toNat x.2.2.1) (Int.toNat x.2.2.2):Int)
theorem qQD (m:Nat) (f:Int) (a k:Nat) (hm:m<4294967296) (h:a+k≤32):qcE (qeY.turn ((m:Int),f,(a:Int),(k:Int),0) ()) 40 ((m:Int),0)=some (0,((qep m (wn f) a k:Nat):Int),(k:Int)):=by
 have key:=qgC (σ:=Int×Int) (turn:=qeY.turn ((m:Int),f,(a:Int),(k:Int),0) ()) (fun i=>(((qep m (wn f) a i:Nat):Int),(i:Int))) (0,((qep m (wn f) a k:Nat):Int),(k:Int)) (n:=k) (fun i hi=>?_) ?_ k 0 (by omega) 40 (by omega)
 ·simp only[qNh] at key
  exact key
 ·have h1:decide ((i:Int)<(k:Int))=true:=qJ (by omega)
  have hl:=qRc (f:=wn f) hm (show a+i≤32 by omega)
  have e1:w64 ((a:Int)+(i:Int))=((a+i:Nat):Int):=by rw[qt (by omega) (by omega)];omega
  have k1:kk ((a+i:Nat):Int)=a+i:=by unfold kk;omega
  have k2:kk (i:Int)=i:=by unfold kk;omega
  show(bif decide ((i:Int)<(k:Int)) then(bif ((((bt (wn ((qep m (wn f) a i:Nat):Int)) (kk (w64 ((a:Int)+(i:Int)))):Nat):Int)) != ((bt (wn f) (kk (i:Int)):Nat):Int))||true then some (TL.on ((bif (((bt (wn ((qep m (wn f) a i:Nat):Int)) (kk (w64 ((a:Int)+(i:Int)))):Nat):Int)) != ((bt (wn f) (kk (i:Int)):Nat):Int) then((flip (wn ((qep m (wn f) a i:Nat):Int)) (kk (w64 ((a:Int)+(i:Int)))):Nat):Int) else((qep m (wn f) a i:Nat):Int)),w64 ((i:Int)+1))) else none) else _)=_
  rw[h1,e1,k1,k2,qgu hl,Bool.or_true,qt (n:=(i:Int)+1) (by omega) (by omega),qMN]
  have e:((((bt (qep m (wn f) a i) (a+i):Nat):Int)) != ((bt (wn f) i:Nat):Int))=(bt (qep m (wn f) a i) (a+i) != bt (wn f) i):=by
   rw[Bool.eq_iff_iff]
   simp only[bne_iff_ne,ne_eq]
   omega
  rw[e]
  cases bt (qep m (wn f) a i) (a+i) != bt (wn f) i<;>rfl
 ·show(bif decide ((k:Int)<(k:Int)) then _ else _)=_
  rw[qS (by omega)]
  rfl
theorem qwQ (x:qc qhW) (h:qd0 x=true):(qob x).val=some (qfH x):=by
 obtain⟨m,f,a,k⟩:=x
 simp only[qd0,Bool.and_eq_true,decide_eq_true_eq] at h
 obtain⟨⟨h0,hm⟩,h1,h2,h3⟩:=h
 obtain⟨m,rfl⟩:=Int.eq_ofNat_of_zero_le h0
 obtain⟨a,rfl⟩:=Int.eq_ofNat_of_zero_le h1
 obtain⟨k,rfl⟩:=Int.eq_ofNat_of_zero_le h2
 have hm0:(m:Int)<4294967296:=hm
 have hm':m<4294967296:=by omega
 have h3':(a:Int)+(k:Int)≤32:=h3
 have hr:LoopN.res qeY ((m:Int),f,(a:Int),(k:Int),0) ()=some (0,((qep m (wn f) a k:Nat):Int),(k:Int)):=qQD m f a k hm' (by omega)
 have hv:qfH ((m:Int),f,(a:Int),(k:Int))=((qep m (wn f) a k:Nat):Int):=by
  show((qep (wn (m:Int)) (wn f) (Int.toNat (a:Int)) (Int.toNat (k:Int)):Nat):Int)=_
  rw[qgu hm',Int.toNat_natCast,Int.toNat_natCast]
 unfold qob PO.val
 rw[hr,hv]
 rfl
end Go.Av
end
section
namespace Go.Av
open Go
theorem qRE (A:Bool) (x:Option Int):(bif A then some 2 else x).getD 0=0↔A=false∧x.getD 0=0:=by cases A<;>simp
theorem qRz (A:Bool) (x:Option Int):(bif A then some 6 else x).getD 0=0↔A=false∧x.getD 0=0:=by cases A<;>simp
set_option maxHeartbeats 1000000 in
theorem qjI {op rd rn rm ra imm cond:Int} {w:Bool} (h:qj (op,rd,rn,rm,ra,imm,cond,w,())=0) :
  (1≤op∧op≤25)∧(0≤rd∧rd≤12)∧(0≤rn∧rn≤12)∧(0≤rm∧rm≤12)∧(op=17→0≤ra∧ra≤12∧ra≠rd)∧(op≠24→op≠25→0≤imm∧imm≤65535∧w=false∧cond=0)∧(5≤op→op≤23→imm≤31)∧(op=18→1≤ra∧ra≤32-imm)∧(6≤op→op≤8→1≤imm):=by
 have hw:=qux imm
 rcases qgi op with rfl |rfl |rfl |rfl |rfl |rfl |rfl |rfl |rfl |rfl |rfl |rfl |rfl |rfl |rfl |rfl |rfl |rfl |rfl |rfl |rfl |rfl |rfl |rfl |rfl |hop
 case inr.inr.inr.inr.inr.inr.inr.inr.inr.inr.inr.inr.inr.inr.inr.inr.inr.inr.inr.inr.inr.inr.inr.inr.inr =>
  exfalso
  have e:=fun k hk=>qp5 (n:=op) (k:=k) hop hk
  simp[qj,qcA,qbo,qcL,PO.qP,PO.val,e] at h
 all_goals
  simp[qj,qcA,qbo,qcL,qc2,qg5,qcI,qfN,PO.qP,PO.val,qhA,qhH,qg2,qiU] at h ⊢
  simp only[qRE,qRz,Bool.or_eq_false_iff,Bool.not_eq_false',decide_eq_true_eq,bne_eq_false_iff_eq,beq_iff_eq] at h
  grind
theorem qRu:IntKind.i64.wrap (-1048576)=-1048576:=rfl
theorem qSo:IntKind.i64.wrap 1048574=1048574:=rfl
end Go.Av
end
section
namespace Go.Av
open Go
theorem qrA:Ty.dflt (.int .i64)=(0:Int):=rfl
theorem qpL {n:Int} (h:0≤n∧n≤12):inRange n 15=true:=by
 unfold inRange
 rw[qJ h.1,qJ (show n<((15:Nat):Int) by omega)]
 rfl
def vOf (op imm ra d n m ld:Int):Int :=
 bif op==3 then imm
 else bif op==4 then(qep (wn d) (wn imm) 16 16:Nat)
 else bif op==5 then(wn m*2 ^ kk imm % 4294967296:Nat)
 else bif op==6 then(wn m / 2 ^ kk imm:Nat)
 else bif op==7 then(wn (sw (wn m) / (2 ^ kk imm:Nat)):Nat)
 else bif op==8 then(wn m / 2 ^ kk imm+wn m % 2 ^ kk imm*2 ^ (32-kk imm):Nat)
 else bif op==9 then(4294967295-wn m:Nat)
 else bif op==10 then(wn n &&& wn m:Nat)
 else bif op==11 then(wn n &&& wn ((4294967295-wn m:Nat):Int):Nat)
 else bif op==12 then(wn n |||wn m:Nat)
 else bif op==13 then(wn n ^^^ wn m:Nat)
 else bif op==14 then(wn (n+m):Nat)
 else bif op==15 then(wn (n-m):Nat)
 else bif op==16||op==17 then(wn n*wn m % 4294967296:Nat)
 else bif op==18 then(qep (wn d) (wn n) imm.toNat ra.toNat:Nat)
 else bif op==19 then(wn ld:Nat)
 else bif op==21 then(wn ld % 256:Nat)
 else d
def qyv (op:Int):Bool:=decide (3≤op)&&decide (op≤19)||op==21
def rg (l:List Int) (k:Int):Int:=l.getD (Int.toNat k) 0
def qsq (r:List Int) (op rd rn rm ra imm ld:Int):List Int :=
 bif op==17 then(r.set rd.toNat (wn (rg r rn)*wn (rg r rm) % 4294967296:Nat)).set ra.toNat (wn (rg r rn)*wn (rg r rm) / 4294967296:Nat)
 else bif qyv op then r.set rd.toNat (vOf op imm ra (rg r rd) (rg r rn) (rg r rm) ld)
 else r
def qig (s:qC.den) (op rd rn rm ra imm ld:Int):qC.den :=
 bif op==23 then qg1 (s,rg s.1 rn,rg s.1 rm) else(qsq s.1 op rd rn rm ra imm ld,s.2)
theorem qQk (n:Int):(wn (qbF .i64 n 255):Int)=((wn n % 256:Nat):Int):=by
 have h:qbF .i64 n 255=n % 256:=qjL n 8 (by omega)
 rw[h]
 unfold wn
 omega
abbrev qo4:List Ty:=[qC,q9,(.int .i64)]
abbrev qrS:Sh:=Sh.ty qC
def qnc (x:qc qo4):PO (Sh.den qrS) :=
 (.ite (inRange x.2.1.2.2.1 15&&inRange x.2.1.2.2.2.1 15)
  (.ite (x.2.1.1==3)
  (.ite (inRange x.2.1.2.1 15)
   (.ret ((List.set x.1.1 (Int.toNat x.2.1.2.1) x.2.1.2.2.2.2.2.1,x.1.2)))
   .fail)
  (.ite (x.2.1.1==4)
   (.ite (inRange x.2.1.2.1 15)
   (.ite (qgb (List.getD x.1.1 (Int.toNat x.2.1.2.1) (Ty.dflt (Ty.int IntKind.i64)),x.2.1.2.2.2.2.2.1,16,16))
    (.ite (inRange x.2.1.2.1 15)
    (.ret ((List.set x.1.1 (Int.toNat x.2.1.2.1) (qjG (List.getD x.1.1 (Int.toNat x.2.1.2.1) (Ty.dflt (Ty.int IntKind.i64)),x.2.1.2.2.2.2.2.1,16,16)),x.1.2)))
    .fail)
    .fail)
   .fail)
   (.ite (bif x.2.1.1==5 then x.2.1.1==5 else bif x.2.1.1==6 then x.2.1.1==6 else bif x.2.1.1==7 then x.2.1.1==7 else x.2.1.1==8)
   (.ite (inRange x.2.1.2.1 15)
    (.ret ((List.set x.1.1 (Int.toNat x.2.1.2.1) (qmN (x.2.1.1,List.getD x.1.1 (Int.toNat x.2.1.2.2.2.1) (Ty.dflt (Ty.int IntKind.i64)),x.2.1.2.2.2.2.2.1)),x.1.2)))
    .fail)
   (.ite (x.2.1.1==9)
    (.ite (inRange x.2.1.2.1 15)
    (.ret ((List.set x.1.1 (Int.toNat x.2.1.2.1) (qgN (List.getD x.1.1 (Int.toNat x.2.1.2.2.2.1) (Ty.dflt (Ty.int IntKind.i64)))),x.1.2)))
    .fail)
    (.ite (bif x.2.1.1==10 then x.2.1.1==10 else bif x.2.1.1==11 then x.2.1.1==11 else bif x.2.1.1==12 then x.2.1.1==12 else bif x.2.1.1==13 then x.2.1.1==13 else bif x.2.1.1==14 then x.2.1.1==14 else bif x.2.1.1==15 then x.2.1.1==15 else x.2.1.1==16)
    (.ite (inRange x.2.1.2.1 15)
     (.ret ((List.set x.1.1 (Int.toNat x.2.1.2.1) (qsm (x.2.1.1,List.getD x.1.1 (Int.toNat x.2.1.2.2.1) (Ty.dflt (Ty.int IntKind.i64)),List.getD x.1.1 (Int.toNat x.2.1.2.2.2.1) (Ty.dflt (Ty.int IntKind.i64)))),x.1.2)))
     .fail)
    (.ite (x.2.1.1==17)
     (.ite (inRange x.2.1.2.1 15)
     (.ite (inRange x.2.1.2.2.2.2.1 15)
      (.ret ((List.set (List.set x.1.1 (Int.toNat x.2.1.2.1) (qlk (List.getD x.1.1 (Int.toNat x.2.1.2.2.1) (Ty.dflt (Ty.int IntKind.i64)),List.getD x.1.1 (Int.toNat x.2.1.2.2.2.1) (Ty.dflt (Ty.int IntKind.i64))))) (Int.toNat x.2.1.2.2.2.2.1) (qnb (List.getD x.1.1 (Int.toNat x.2.1.2.2.1) (Ty.dflt (Ty.int IntKind.i64)),List.getD x.1.1 (Int.toNat x.2.1.2.2.2.1) (Ty.dflt (Ty.int IntKind.i64)))),x.1.2)))
      .fail)
     .fail)
     (.ite (x.2.1.1==18)
     (.ite (inRange x.2.1.2.1 15)
      (.ite (qgb (List.getD x.1.1 (Int.toNat x.2.1.2.1) (Ty.dflt (Ty.int IntKind.i64)),List.getD x.1.1 (Int.toNat x.2.1.2.2.1) (Ty.dflt (Ty.int IntKind.i64)),x.2.1.2.2.2.2.2.1,x.2.1.2.2.2.2.1))
      (.ite (inRange x.2.1.2.1 15)
       (.ret ((List.set x.1.1 (Int.toNat x.2.1.2.1) (qjG (List.getD x.1.1 (Int.toNat x.2.1.2.1) (Ty.dflt (Ty.int IntKind.i64)),List.getD x.1.1 (Int.toNat x.2.1.2.2.1) (Ty.dflt (Ty.int IntKind.i64)),x.2.1.2.2.2.2.2.1,x.2.1.2.2.2.2.1)),x.1.2)))
       .fail)
      .fail)
      .fail)
     (.ite (x.2.1.1==21)
      (.ite (inRange x.2.1.2.1 15)
      (.ret ((List.set x.1.1 (Int.toNat x.2.1.2.1) (qbb (qbF IntKind.i64 x.2.2 255)),x.1.2)))
      .fail)
      (.ite (x.2.1.1==19)
      (.ite (inRange x.2.1.2.1 15)
       (.ret ((List.set x.1.1 (Int.toNat x.2.1.2.1) (qbb x.2.2),x.1.2)))
       .fail)
      (.ite (x.2.1.1==23)
       (.ret (qg1 (x.1,List.getD x.1.1 (Int.toNat x.2.1.2.2.1) (Ty.dflt (Ty.int IntKind.i64)),List.getD x.1.1 (Int.toNat x.2.1.2.2.2.1) (Ty.dflt (Ty.int IntKind.i64)))))
       (.ret (x.1))))))))))))
  .fail)
set_option maxHeartbeats 1000000 in
theorem qMC (s:qC.den) (op rd rn rm ra imm cond ld:Int) (w:Bool) (h:qj (op,rd,rn,rm,ra,imm,cond,w,())=0):(qnc (s,(op,rd,rn,rm,ra,imm,cond,w,()),ld)).val=some (qig s op rd rn rm ra imm ld):=by
 obtain⟨hop,hrd,hrn,hrm,h17,himm,h31,h18,_⟩:=qjI h
 have i1:=qpL hrd
 have i2:=qpL hrn
 have i3:=qpL hrm
 have hb:=qQk ld
 rcases qgi op with rfl |rfl |rfl |rfl |rfl |rfl |rfl |rfl |rfl |rfl |rfl |rfl |rfl |rfl |rfl |rfl |rfl |rfl |rfl |rfl |rfl |rfl |rfl |rfl |rfl |hx
 case inr.inr.inr.inr.inr.inr.inr.inr.inr.inr.inr.inr.inr.inr.inr.inr.inr.inr.inr.inr.inr.inr.inr.inr.inr=>omega
 case inr.inr.inr.inr.inr.inr.inr.inr.inr.inr.inr.inr.inr.inr.inr.inr.inl =>
  have i4:=qpL ⟨(h17 rfl).1,(h17 rfl).2.1⟩
  simp[qnc,PO.val,i1,i2,i3,i4,qig,qsq,rg,qlk,qnb,qrA]
 case inr.inr.inr.inr.inr.inr.inr.inr.inr.inr.inr.inr.inr.inr.inr.inr.inr.inl =>
  obtain⟨a1,a2,_⟩:=himm (by omega) (by omega)
  obtain⟨a3,a4⟩:=h18 rfl
  have a5:=h31 (by omega) (by omega)
  have g:∀m f:Int,qgb (m,f,imm,ra)=true:=fun m f=>by
   simp only[qgb,Bool.and_eq_true,decide_eq_true_eq]
   exact⟨a1,by show(0:Int)≤ra;omega,by show imm+ra≤32;omega,by show imm<32;omega⟩
  simp[qnc,PO.val,i1,i2,i3,g,qig,qsq,qyv,vOf,rg,qjG,qrA]
 all_goals
  first
  |(have g:∀m:Int,qgb (m,imm,16,16)=true:=fun _=>rfl
    simp[qnc,PO.val,i1,i2,i3,g,qig,qsq,qyv,vOf,rg,qjG,qmN,qmT,qsm,qse,PO.qP,qot,qld,qqd,qqC,qgN,qk6,qkv,qhP,qju,qja,qlk,qbb,hb,qrA];done)
def qpc (x:qc qo4):Bool:=qj x.2.1==0
def qm8 (x:qc qo4):Sh.den qrS:=qig x.1 x.2.1.1 x.2.1.2.1 x.2.1.2.2.1 x.2.1.2.2.2.1 x.2.1.2.2.2.2.1 x.2.1.2.2.2.2.2.1 x.2.2
theorem qHw (x:qc qo4) (h:qpc x=true):(qnc x).val=some (qm8 x):=by
 obtain⟨s,⟨op,rd,rn,rm,ra,imm,cond,w,u⟩,ld⟩:=x
 exact qMC s op rd rn rm ra imm cond ld w (by simpa [qpc] using h)
abbrev qnE:List Ty:=[qC,q9]
abbrev qqE:Sh:=Sh.tup (Sh.pair (Sh.ty qA9) (Sh.pair (Sh.ty Ty.bool) (Sh.ty Ty.unit)))
def qn9 (x:qc qnE):PO (Sh.den qqE) :=
 (.ite (qj x.2 != 0)
  (.ret (((0,0,0,false,()),false,())))
  (.ite (qjz x.1)
  (.ite (inRange x.2.2.2.1 15)
   (.ite (x.2.1==19)
   (.ret (((List.getD (qcq x.1).1 (Int.toNat x.2.2.2.1) (Ty.dflt (Ty.int IntKind.i64)),4,0,false,()),true,())))
   (.ite (x.2.1==21)
    (.ret (((List.getD (qcq x.1).1 (Int.toNat x.2.2.2.1) (Ty.dflt (Ty.int IntKind.i64)),1,0,false,()),true,())))
    (.ite (x.2.1==20)
    (.ite (inRange x.2.2.1 15)
     (.ret (((List.getD (qcq x.1).1 (Int.toNat x.2.2.2.1) (Ty.dflt (Ty.int IntKind.i64)),4,List.getD (qcq x.1).1 (Int.toNat x.2.2.1) (Ty.dflt (Ty.int IntKind.i64)),true,()),true,())))
     .fail)
    (.ite (x.2.1==22)
     (.ite (inRange x.2.2.1 15)
     (.ret (((List.getD (qcq x.1).1 (Int.toNat x.2.2.2.1) (Ty.dflt (Ty.int IntKind.i64)),1,qbF IntKind.i64 (List.getD (qcq x.1).1 (Int.toNat x.2.2.1) (Ty.dflt (Ty.int IntKind.i64))) 255,true,()),true,())))
     .fail)
     (.ret (((0,0,0,false,()),false,())))))))
   .fail)
  .fail))
theorem qxJ (l:List Int) (k:Nat):(qgQ l).getD k 0=(wn (l.getD k 0):Int):=by
 unfold qgQ
 rw[List.getD_eq_getElem?_getD,List.getD_eq_getElem?_getD,List.getElem?_map]
 cases l[k]?<;>rfl
def qf9 (bad:Bool) (op a d:Int):(qA9.den×Bool×Unit) :=
 bif bad then((0,0,0,false,()),false,())
 else bif op==19 then((wn a,4,0,false,()),true,())
 else bif op==20 then((wn a,4,wn d,true,()),true,())
 else bif op==21 then((wn a,1,0,false,()),true,())
 else bif op==22 then((wn a,1,(wn d % 256:Nat),true,()),true,())
 else((0,0,0,false,()),false,())
theorem qMr (m:Nat):qbF .i64 (m:Int) 255=((m % 256:Nat):Int):=by
 have h:qbF .i64 (m:Int) 255=(m:Int) % 256:=qjL m 8 (by omega)
 rw[h]
 omega
def qfy (x:qc qnE):Bool:=decide (List.length x.1.1=15)
def qe (x:qc qnE):Sh.den qqE:=qf9 (qj x.2 != 0) x.2.1 (rg x.1.1 x.2.2.2.1) (rg x.1.1 x.2.2.1)
theorem qLh (s:qC.den) (op rd rn rm ra imm cond:Int) (w:Bool) (hs:List.length s.1=15):(qn9 (s,(op,rd,rn,rm,ra,imm,cond,w,()))).val=some (qf9 (qj (op,rd,rn,rm,ra,imm,cond,w,()) != 0) op (rg s.1 rn) (rg s.1 rd)):=by
 cases hc:(qj (op,rd,rn,rm,ra,imm,cond,w,()) != (0:Int))
 ·have h:qj (op,rd,rn,rm,ra,imm,cond,w,())=0:=by simpa using hc
  obtain⟨hop,hrd,hrn,_⟩:=qjI h
  have i1:=qpL hrd
  have i2:=qpL hrn
  have g:qjz s=true:=qJ hs
  have e1:∀k:Int,List.getD (qcq s).1 (Int.toNat k) 0=(wn (rg s.1 k):Int):=fun k=>qxJ s.1 _
  simp only[qn9,PO.val,hc,i1,i2,g,qrA]
  rw[e1,e1,qMr]
  unfold qf9
  by_cases h19:op=19
  ·subst h19;rfl
  ·by_cases h20:op=20
   ·subst h20;rfl
   ·by_cases h21:op=21
    ·subst h21;rfl
    ·by_cases h22:op=22
     ·subst h22;rfl
     ·have b19:(op==19)=false:=beq_eq_false_iff_ne.2 h19
      have b20:(op==20)=false:=beq_eq_false_iff_ne.2 h20
      have b21:(op==21)=false:=beq_eq_false_iff_ne.2 h21
      have b22:(op==22)=false:=beq_eq_false_iff_ne.2 h22
      simp[b19,b20,b21,b22]
 ·simp[qn9,PO.val,hc,qf9]
theorem qCB (x:qc qnE) (h:qfy x=true):(qn9 x).val=some (qe x):=by
 obtain⟨s,op,rd,rn,rm,ra,imm,cond,w,u⟩:=x
 exact qLh s op rd rn rm ra imm cond w (of_decide_eq_true h)
abbrev qgk:List Ty:=[q9,(.int .i64),(.int .i64),(.int .i64),(.int .i64)]
abbrev qi8:Sh:=Sh.ty (Ty.int IntKind.i64)
def qmw (x:qc qgk):PO (Sh.den qi8) :=
 (.ite (x.1.1==3)
  (.ret (x.1.2.2.2.2.2.1))
  (.ite (x.1.1==4)
  (.ret (w64 (Int.tmod x.2.1 65536+w64 (65536*x.1.2.2.2.2.2.1))))
  (.ite (x.1.1==5)
   (.ret (qkO (x.2.2.2.1,x.1.2.2.2.2.2.1)))
   (.ite (x.1.1==6)
   (.ret (qkL (x.2.2.2.1,x.1.2.2.2.2.2.1)))
   (.ite (x.1.1==7)
    (.ret (qk7 (x.2.2.2.1,x.1.2.2.2.2.2.1)))
    (.ite (x.1.1==8)
    (.ret (qkx (x.2.2.2.1,x.1.2.2.2.2.2.1)))
    (.ite (x.1.1==9)
     (.ret (qie x.2.2.2.1))
     (.ite (x.1.1==10)
     (.ret (qib (x.2.2.1,x.2.2.2.1)))
     (.ite (x.1.1==11)
      (.ret (qib (x.2.2.1,qie x.2.2.2.1)))
      (.ite (x.1.1==12)
      (.ret (qlC (x.2.2.1,x.2.2.2.1)))
      (.ite (x.1.1==13)
       (.ret (qkB (x.2.2.1,x.2.2.2.1)))
       (.ite (x.1.1==14)
       (.ret (qii (x.2.2.1,x.2.2.2.1)))
       (.ite (x.1.1==15)
        (.ret (qdz (x.2.2.1,x.2.2.2.1)))
        (.ite (bif x.1.1==16 then x.1.1==16 else x.1.1==17)
        (.ret (qhV (x.2.2.1,x.2.2.2.1)))
        (.ite (x.1.1==18)
         (.ite (qd0 (x.2.1,x.2.2.1,x.1.2.2.2.2.2.1,x.1.2.2.2.2.1))
         (.ret (qfH (x.2.1,x.2.2.1,x.1.2.2.2.2.2.1,x.1.2.2.2.2.1)))
         .fail)
         (.ite (x.1.1==19)
         (.ret (qp x.2.2.2.2))
         (.ite (x.1.1==21)
          (.ret (Int.tmod (qp x.2.2.2.2) 256))
          (.ret (x.2.1)))))))))))))))))))
set_option maxHeartbeats 1000000 in
theorem qMT (op rd rn rm ra imm cond:Int) (w:Bool) (d n m ld:Int) (hd:0≤d∧d<4294967296) (h:qj (op,rd,rn,rm,ra,imm,cond,w,())=0):(qmw ((op,rd,rn,rm,ra,imm,cond,w,()),d,n,m,ld)).val=some (vOf op imm ra d n m ld):=by
 obtain⟨hop,hrd,hrn,hrm,h17,himm,h31,h18,_⟩:=qjI h
 rcases qgi op with rfl |rfl |rfl |rfl |rfl |rfl |rfl |rfl |rfl |rfl |rfl |rfl |rfl |rfl |rfl |rfl |rfl |rfl |rfl |rfl |rfl |rfl |rfl |rfl |rfl |hx
 case inr.inr.inr.inr.inr.inr.inr.inr.inr.inr.inr.inr.inr.inr.inr.inr.inr.inr.inr.inr.inr.inr.inr.inr.inr=>omega
 case inr.inr.inr.inl =>
  obtain⟨a1,a2,_⟩:=himm (by omega) (by omega)
  show some (w64 (Int.tmod d 65536+w64 (65536*imm)))=some ((qep (wn d) (wn imm) 16 16:Nat):Int)
  rw[qmh _ _ hd.1,qt (n:=65536*imm) (by omega) (by omega),qt (by omega) (by omega)]
  have e:qep (wn d) (wn imm) 16 16=wn imm % 65536*65536+wn d % 65536:=by
   have:=qdC d
   unfold qep
   omega
  rw[e]
  have e1:(wn imm:Int)=imm:=by rw[qlV,Int.emod_eq_of_lt (by omega) (by omega)]
  have e2:(wn d:Int)=d:=by rw[qlV,Int.emod_eq_of_lt (by omega) (by omega)]
  exact congrArg some (by omega)
 case inr.inr.inr.inr.inr.inr.inr.inr.inr.inr.inr.inr.inr.inr.inr.inr.inr.inl =>
  obtain⟨a1,a2,_⟩:=himm (by omega) (by omega)
  obtain⟨a3,a4⟩:=h18 rfl
  have g:qd0 (d,n,imm,ra)=true:=by
   simp only[qd0,Bool.and_eq_true,decide_eq_true_eq]
   exact⟨⟨hd.1,hd.2⟩,a1,by show(0:Int)≤ra;omega,by show imm+ra≤32;omega⟩
  show(bif qd0 (d,n,imm,ra) then some (qfH (d,n,imm,ra)) else none)=_
  rw[g]
  rfl
 case inr.inr.inr.inr.inr.inr.inr.inr.inr.inr.inr.inr.inr.inr.inr.inr.inr.inr.inr.inr.inl =>
  show some (Int.tmod ((wn ld:Nat):Int) 256)=some ((wn ld % 256:Nat):Int)
  rw[qmh _ _ (by omega)]
  exact congrArg some (by omega)
 all_goals rfl
def qdw (x:qc qgk):Bool:=(decide ((0:Int)≤x.2.1)&&decide ((x.2.1:Int)<4294967296))&&qj x.1==0
def qdx (x:qc qgk):Sh.den qi8:=vOf x.1.1 x.1.2.2.2.2.2.1 x.1.2.2.2.2.1 x.2.1 x.2.2.1 x.2.2.2.1 x.2.2.2.2
theorem qvo (x:qc qgk) (h:qdw x=true):(qmw x).val=some (qdx x):=by
 obtain⟨⟨op,rd,rn,rm,ra,imm,cond,w,u⟩,d,n,m,ld⟩:=x
 simp only[qdw,Bool.and_eq_true,decide_eq_true_eq,beq_iff_eq] at h
 exact qMT op rd rn rm ra imm cond w d n m ld h.1 h.2
abbrev qf2:List Ty:=[qC,q9]
abbrev qis:Sh:=Sh.tup (Sh.pair (Sh.ty qA9) (Sh.pair (Sh.ty Ty.bool) (Sh.ty Ty.unit)))
def qf0 (x:qc qf2):PO (Sh.den qis) :=
 (.ite (qbC x.2)
  (.ite (qn x.2 != 0||!(x.2.1==19||x.2.1==21)&&!(x.2.1==20||x.2.1==22))
  (.ret (((0,0,0,false,()),false,())))
  (.ite (inRange x.2.2.2.1 15)
   (.ite (x.2.1==20||x.2.1==22)
   (.ite (inRange x.2.2.1 15)
    (.ite (x.2.1==21||x.2.1==22)
    (.ret (((qp (List.getD x.1.1 (Int.toNat x.2.2.2.1) (Ty.dflt (Ty.int IntKind.i64))),1,Int.tmod (qp (List.getD x.1.1 (Int.toNat x.2.2.1) (Ty.dflt (Ty.int IntKind.i64)))) 256,x.2.1==20||x.2.1==22,()),true,())))
    (.ret (((qp (List.getD x.1.1 (Int.toNat x.2.2.2.1) (Ty.dflt (Ty.int IntKind.i64))),4,qp (List.getD x.1.1 (Int.toNat x.2.2.1) (Ty.dflt (Ty.int IntKind.i64))),x.2.1==20||x.2.1==22,()),true,()))))
    .fail)
   (.ite (x.2.1==21||x.2.1==22)
    (.ret (((qp (List.getD x.1.1 (Int.toNat x.2.2.2.1) (Ty.dflt (Ty.int IntKind.i64))),1,0,x.2.1==20||x.2.1==22,()),true,())))
    (.ret (((qp (List.getD x.1.1 (Int.toNat x.2.2.2.1) (Ty.dflt (Ty.int IntKind.i64))),4,0,x.2.1==20||x.2.1==22,()),true,())))))
   .fail))
  .fail)
def qiz (_:qc qf2):Bool:=true
def qi (x:qc qf2):Sh.den qis:=qf9 (qj x.2 != 0) x.2.1 (rg x.1.1 x.2.2.2.1) (rg x.1.1 x.2.2.1)
theorem qAU (s:qC.den) (op rd rn rm ra imm cond:Int) (w:Bool):(qf0 (s,(op,rd,rn,rm,ra,imm,cond,w,()))).val=some (qf9 (qj (op,rd,rn,rm,ra,imm,cond,w,()) != 0) op (rg s.1 rn) (rg s.1 rd)):=by
 have hck:=qoF (op,rd,rn,rm,ra,imm,cond,w,())
 have hco:=qtN (op,rd,rn,rm,ra,imm,cond,w,())
 have t1:∀n:Int,Int.tmod ((wn n:Nat):Int) 256=((wn n % 256:Nat):Int):=fun n=>by rw[qmh _ _ (by omega)];omega
 cases hc:(qj (op,rd,rn,rm,ra,imm,cond,w,()) != (0:Int))
 ·have h:qj (op,rd,rn,rm,ra,imm,cond,w,())=0:=by simpa using hc
  obtain⟨hop,hrd,hrn,_⟩:=qjI h
  have i1:=qpL hrd
  have i2:=qpL hrn
  rw[hck] at hc
  simp only[qf0,PO.val,hc,hco,i1,i2,qrA,qp,t1]
  unfold qf9
  by_cases h19:op=19
  ·subst h19;rfl
  ·by_cases h20:op=20
   ·subst h20;rfl
   ·by_cases h21:op=21
    ·subst h21;rfl
    ·by_cases h22:op=22
     ·subst h22;rfl
     ·have b19:(op==19)=false:=beq_eq_false_iff_ne.2 h19
      have b20:(op==20)=false:=beq_eq_false_iff_ne.2 h20
      have b21:(op==21)=false:=beq_eq_false_iff_ne.2 h21
      have b22:(op==22)=false:=beq_eq_false_iff_ne.2 h22
      simp[b19,b20,b21,b22]
 ·rw[hck] at hc
  simp[qf0,PO.val,hc,hco,qf9]
theorem quA (x:qc qf2) (_:qiz x=true):(qf0 x).val=some (qi x):=by
 obtain⟨s,op,rd,rn,rm,ra,imm,cond,w,u⟩:=x
 exact qAU s op rd rn rm ra imm cond w
end Go.Av
end
