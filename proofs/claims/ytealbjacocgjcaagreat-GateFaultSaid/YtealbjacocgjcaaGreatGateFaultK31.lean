/- Texts of the proof, one behind the other. -/
import Derived.Test.YtealbjacocgjcaaGreatGateFaultK30
import Derived.Test.YtealbjacocgjcaaGreatGateFaultK28
import Derived.Test.YtealbjacocgjcaaGreatGateFaultK26
import Derived.Test.YtealbjacocgjcaaGreatGateFaultK27
section
namespace Go.Av
open Go
def gets (r:Int):List Int→Nat→List qA.den
 |[],_=>[]
 |t::u,i=>qSQ (4*(t+1),r,(i:Int))++gets r u (i+1)
section
variable (r:Int) (hr:r=0∨r=1) (o:tOp.den) (s:qgZ.den) (u:List Int) (hu:u.length≤4)
include hr hu
end
end Go.Av
end
section
namespace Go.Av
open Go
theorem kinds (k:Int):k=1∨k=2∨k=3∨k=4∨k=5∨k=6∨k=7∨k=8∨k=9∨k=10∨k=11∨k=12∨k=13∨k=14∨k=15∨k=16∨k=17∨k=18∨k=19∨(k<1∨19<k):=by omega
end Go.Av
end
section
namespace Go.Av
open Go
end Go.Av
end
section
namespace Go.Av
open Go
end Go.Av
end
section
namespace Go.Av
open Go
end Go.Av
end
section
namespace Go.Av
open Go
end Go.Av
end
section
namespace Go.Av
open Go
theorem qQ6 (l:List Int) (k j v:Int) (hk:0≤k∧k≤12) (hj:0≤j) (hl:l.length=15):rg (l.set k.toNat v) j=if j=k then v else rg l j:=by
 unfold rg
 rw[List.getD_eq_getElem?_getD,List.getD_eq_getElem?_getD,List.getElem?_set]
 by_cases h:j=k
 ·subst h
  rw[if_pos rfl,if_pos (by omega),if_pos rfl]
  rfl
 ·rw[if_neg h,if_neg (by omega)]
def qpr (s:qE.den) (op rd rn rm ra imm ld:Int):qE.den:=bif op==24||op==25 then qcj s else qfg (qcj s) op rd rn rm ra imm ld
theorem qxn (s:qE.den) (op rd rn rm ra imm cond:Int) (w:Bool) (ld:Int) (h2:op≠2):qlX false s op rd rn rm ra imm cond w ld=(((qpr s op rd rn rm ra imm ld).1,(wn (wn s.2.1+qu6 (qcj s) op imm cond w):Int),(qpr s op rd rn rm ra imm ld).2.2),true,()):=by
 have b2:(op==2)=false:=beq_eq_false_iff_ne.2 h2
 unfold qlX
 rw[b2]
 rfl
theorem qJ8 (s:qE.den) (op imm cond:Int) (w:Bool) (h:op≠24) (h':op≠25):qu6 s op imm cond w=bif qbR op w then 4 else 2:=by
 have b1:(op==24)=false:=beq_eq_false_iff_ne.2 h
 have b2:(op==25)=false:=beq_eq_false_iff_ne.2 h'
 unfold qu6 qm5
 rw[b1,b2]
 rfl
theorem qHm (n:Int):qR .i64 n 4294967295=(wn n:Int):=by rw[qGL,qhO]
end Go.Av
end
section
namespace Go.Av
open Go
end Go.Av
end
section
namespace Go.Av
open Go
end Go.Av
end
section
namespace Go.Av
open Go
def qnr (k:Nat) (m m':qcS):Prop:=m'.1=m.1∧∀j,j≠k→(rowsOf m'.2 m.1.2.1).getD j []=(rowsOf m.2 m.1.2.1).getD j []
theorem qnr.refl (k:Nat) (m:qcS):qnr k m m:=⟨rfl,fun _ _=>rfl⟩
theorem qnr.trans {k:Nat} {a b c:qcS} (h:qnr k a b) (g:qnr k b c):qnr k a c :=
 ⟨g.1.trans h.1,fun j hj=>by rw[←h.2 j hj];have:=g.2 j hj;rw[h.1] at this;exact this⟩
theorem qBL {α:Type} (xs:List α) (p:Nat) (ys:List α) (n i:Nat) (h:p+min ys.length n≤xs.length) :
  (qdG xs p ys n)[i]?=if i<p then xs[i]? else if i<p+min ys.length n then ys[i-p]? else xs[i]?:=by
 unfold qdG
 have h1:(xs.take p).length=p:=by rw[List.length_take];omega
 have h2:(ys.take n).length=min ys.length n:=by rw[List.length_take];omega
 by_cases c1:i<p
 ·rw[if_pos c1,List.append_assoc,List.getElem?_append_left (by omega),List.getElem?_take,if_pos c1]
 ·rw[if_neg c1]
  by_cases c2:i<p+min ys.length n
  ·rw[if_pos c2,List.append_assoc,List.getElem?_append_right (by omega),h1,List.getElem?_append_left (by omega),List.getElem?_take,if_pos (by omega)]
  ·rw[if_neg c2,List.getElem?_append_right (by rw[List.length_append];omega),List.length_append,h1,h2,List.getElem?_drop]
   congr 1
   omega
structure Ph (at_:Int) (mem:qcS) (P:qE.den→Prop) (r:Bool×Int×qE.den×qcS):Prop where
 mem:r.2.2.2=mem
 on:r.1=true→r.2.1=at_+1∧List.length r.2.2.1.1=15∧P r.2.2.1
section
variable {k p r0 b:Int} {q:Int} {H:Nat}
end
end Go.Av
end
section
namespace Go.Av
open Go
def qmw:LoopN where
 M:=[3,6,7,8]
 T:=[5,9,10,11,12,13,14,15,16,17,18,19,20,21,22,23]
 D:=[6,7,8]
 ss:=[.osl 0 qk,.ty (.sl qk),.ty (.int .i64),.ty (.int .i64)]
 hs:=[]
 es:=[.exit 0]
 σ:=(List (Ty.den qk))×(Ty.den (.int .i64))
 x0:=fun x _=>(x.1,x.2.2.2)
 put:=fun x _ s=>((s.1,x.2.1,x.2.2.1,s.2),())
 fuel:=fun x _=>List.length x.2.1+1
 turn:=fun x _ s =>
 (.ite (decide (s.2<x.2.2.1))
  (.ite (inRange s.2 (List.length x.2.1))
  (.ite (Nat.ble ((List.length s.1+List.length [List.getD x.2.1 (Int.toNat s.2) (Ty.dflt qk)])*80) 140737488355328)
   (.ite ((List.getD x.2.1 (Int.toNat s.2) (Ty.dflt qk)).1 != 1)
   (.ite (Nat.ble ((List.length (s.1++[List.getD x.2.1 (Int.toNat s.2) (Ty.dflt qk)])+List.length [List.getD x.2.1 (Int.toNat s.2) (Ty.dflt qk)])*80) 140737488355328)
    (.ret (.on (s.1++[List.getD x.2.1 (Int.toNat s.2) (Ty.dflt qk)]++[List.getD x.2.1 (Int.toNat s.2) (Ty.dflt qk)],w64 (s.2+1))))
    .fail)
   (.ret (.on (s.1++[List.getD x.2.1 (Int.toNat s.2) (Ty.dflt qk)],w64 (s.2+1)))))
   .fail)
  .fail)
  (.ret (.out 0 (s.1,s.2))))
abbrev qp7:List Ty:=[(.sl qk)]
abbrev qsq:Sh:=Sh.osl 32 qk
def quC (x:qd qp7):PO (Sh.den qsq) :=
 (.opt (LoopN.res qmw ([],x,qi x,0) ()) fun p0 =>
  (.ret (p0.2.1)))
def qnk (l:List qk.den):List qk.den:=l.flatMap fun x=>bif x.1 != 1 then[x,x] else[x]
theorem qnz (x:qk.den) (l:List qk.den):qnk (x::l)=(bif x.1 != 1 then[x,x] else[x])++qnk l:=List.flatMap_cons
theorem qxk (l:List qk.den) (hl:l.length<1073741824):∀(k i:Nat),i+k=l.length→∀f,k<f→∀out:List qk.den,out.length≤2*i →
  qeK (qmw.turn ([],l,qi l,0) ()) f (out,(i:Int))=some (0,(out++qnk (l.drop i),(l.length:Int)))
 |0,i,hi,f,hf,out,ho=>by
  obtain⟨f,rfl⟩:∃g,f=g+1:=⟨f-1,by omega⟩
  have hil:i=l.length:=by omega
  subst hil
  refine(qb6 (c:=0) (s':=(out,(l.length:Int))) ?_).trans ?_
  ·exact qB (qC (by show ¬((l.length:Int)<((List.length l:Nat):Int));omega))
  ·rw[List.drop_length]
   simp[qnk]
 |k+1,i,hi,f,hf,out,ho=>by
  obtain⟨f,rfl⟩:∃g,f=g+1:=⟨f-1,by omega⟩
  have hlt:i<l.length:=by omega
  have hd:l.drop i=l[i]::l.drop (i+1):=List.drop_eq_getElem_cons hlt
  have hg:List.getD l (Int.toNat (i:Int)) (Ty.dflt qk)=l[i]:=by rw[Int.toNat_natCast];exact qet l _ hlt
  have hw:w64 ((i:Int)+1)=((i+1:Nat):Int):=by rw[qu (by omega) (by omega)];push_cast;rfl
  have r1:Nat.ble ((List.length out+List.length [l[i]])*80) 140737488355328=true:=by rw[Nat.ble_eq];simp;omega
  have r2:Nat.ble ((List.length (out++[l[i]])+List.length [l[i]])*80) 140737488355328=true:=by rw[Nat.ble_eq];simp;omega
  have hv:(qmw.turn ([],l,qi l,0) () (out,(i:Int))).val=some (TL.on (bif l[i].1 != 1 then out++[l[i]]++[l[i]] else out++[l[i]],((i+1:Nat):Int))):=by
   refine(qe (qK (by show((i:Int)<((List.length l:Nat):Int));omega))).trans ((qe (inR hlt)).trans ?_)
   dsimp only
   rw[hg,hw]
   refine(qe r1).trans ?_
   cases l[i].1 != 1
   ·rfl
   ·exact(qe rfl).trans ((qe r2).trans rfl)
  rw[hd]
  refine(qeQ hv).trans ?_
  cases hc:l[i].1 != 1
  ·refine(qxk l hl k (i+1) (by omega) f (by omega) _ (by simp;omega)).trans ?_
   rw[qnz,hc,←List.append_assoc]
   rfl
  ·refine(qxk l hl k (i+1) (by omega) f (by omega) _ (by simp;omega)).trans ?_
   rw[qnz,hc]
   simp only[cond_true,List.append_assoc,List.cons_append,List.nil_append]
   rfl
theorem qRe (l:List qk.den) (hl:l.length<1073741824):(quC l).val=some (qnk l):=by
 refine(qcP (r:=_) (qxk l hl l.length 0 (Nat.zero_add _) (l.length+1) (Nat.lt_succ_self _) [] (Nat.zero_le _))).trans ?_
 rw[List.drop_zero,List.nil_append]
 rfl
def qnl (x:qd qp7):Bool:=decide (List.length x<1073741824)
def qsw (x:qd qp7):Sh.den qsq:=qnk x
theorem qIe (x:qd qp7) (h:qnl x=true):(quC x).val=some (qsw x):=qRe x (of_decide_eq_true h)
end Go.Av
end
section
namespace Go.Av
open Go
def qHW (a b:qE.den):Prop:=qcv a.1=qcv b.1∧a.2.2=b.2.2
theorem qHW.trans {a b c:qE.den} (h:qHW a b) (g:qHW b c):qHW a c:=⟨h.1.trans g.1,h.2.trans g.2⟩
end Go.Av
end
section
namespace Go.Av
open Go
def qxt (s:qE.den) (ρ:Int→Nat):Prop:=List.length s.1=15∧∀k:Int,0≤k→wn (rg s.1 k)=ρ k
def qn (ρ:Int→Nat) (k:Int) (v:Nat):Int→Nat:=fun j=>bif j==k then v else ρ j
def qjc (ρ:Int→Nat):qA.den→(Int→Nat)
 |(op,rd,rn,rm,ra,imm,_)=>bif op==17 then qn (qn ρ rd (ρ rn*ρ rm % 4294967296)) ra (ρ rn*ρ rm / 4294967296)
  else qn ρ rd (wn (vOf op imm ra (ρ rd) (ρ rn) (ρ rm) 0))
theorem qbL (ρ:Int→Nat) (k:Int) (v:Nat):qn ρ k v k=v:=by simp[qn]
theorem qba (ρ:Int→Nat) {k j:Int} (v:Nat) (h:j≠k):qn ρ k v j=ρ j:=by
 unfold qn
 rw[beq_eq_false_iff_ne.2 h]
 rfl
theorem qy9 {r:List Int} {ρ:Int→Nat} (hl:r.length=15) (h:∀k:Int,0≤k→wn (rg r k)=ρ k) (rd v:Int) (hrd:0≤rd∧rd≤12):(r.set rd.toNat v).length=15∧∀k:Int,0≤k→wn (rg (r.set rd.toNat v) k)=qn ρ rd (wn v) k:=by
 refine⟨by simp[hl],fun k hk=>?_⟩
 rw[qQ6 _ _ _ _ hrd hk hl]
 unfold qn
 by_cases e:k=rd
 ·subst e;simp
 ·rw[if_neg e,h k hk,beq_eq_false_iff_ne.2 e]
  rfl
theorem qIL {s:qE.den} {ρ:Int→Nat} (h:qxt s ρ) (op rd rn rm ra imm cond:Int) (w:Bool) (ld:Int) (hck:qf (op,rd,rn,rm,ra,imm,cond,w,())=0) (hmk:qnn op=true) :
  ∃t:qE.den,qbf (s,(op,rd,rn,rm,ra,imm,cond,w,()),ld)=(t,true,()) ∧
   qxt t (bif op==17 then qn (qn ρ rd (ρ rn*ρ rm % 4294967296)) ra (ρ rn*ρ rm / 4294967296) else qn ρ rd (wn (vOf op imm ra (ρ rd) (ρ rn) (ρ rm) ld))):=by
 obtain⟨hl,hr⟩:=h
 obtain⟨_,hrd,hrn,hrm,h17,_⟩:=qlJ hck
 have hop:3≤op∧op≤21:=by
  unfold qnn at hmk
  simp only[Bool.or_eq_true,Bool.and_eq_true,decide_eq_true_eq,beq_iff_eq] at hmk
  omega
 have h2:op≠2:=by omega
 have b23:(op==23)=false:=beq_eq_false_iff_ne.2 (by omega)
 have b24:(op==24)=false:=beq_eq_false_iff_ne.2 (by omega)
 have b25:(op==25)=false:=beq_eq_false_iff_ne.2 (by omega)
 have hc:(qf (op,rd,rn,rm,ra,imm,cond,w,()) != (0:Int))=false:=by simpa using hck
 have hwl:(qcv s.1).length=15:=by rw[qqb,hl]
 have hwr:∀k:Int,0≤k→wn (rg (qcv s.1) k)=ρ k:=fun k hk=>by rw[qpX,qvW,hr k hk]
 have ew:∀k:Int,0≤k→rg (qcv s.1) k=(ρ k:Int):=fun k hk=>by rw[qpX,hr k hk]
 refine⟨((qka (qcv s.1) op rd rn rm ra imm ld),(wn (wn s.2.1+qu6 (qcj s) op imm cond w):Int),s.2.2),?_,?_⟩
 ·show qlX (qf (op,rd,rn,rm,ra,imm,cond,w,()) != 0) s op rd rn rm ra imm cond w ld=_
  rw[hc,qxn _ _ _ _ _ _ _ _ _ _ h2]
  unfold qpr
  rw[b24,b25]
  show(((qfg (qcj s) op rd rn rm ra imm ld).1,_,(qfg (qcj s) op rd rn rm ra imm ld).2.2),true,())=_
  unfold qfg
  rw[b23]
  rfl
 ·show List.length (qka (qcv s.1) op rd rn rm ra imm ld)=15∧∀k:Int,0≤k→wn (rg (qka (qcv s.1) op rd rn rm ra imm ld) k)=_
  unfold qka
  by_cases e17:op=17
  ·subst e17
   have hra:=h17 rfl
   obtain⟨q1,q2⟩:=qy9 hwl hwr rd ((wn (rg (qcv s.1) rn)*wn (rg (qcv s.1) rm) % 4294967296:Nat):Int) hrd
   obtain⟨p1,p2⟩:=qy9 q1 q2 ra ((wn (rg (qcv s.1) rn)*wn (rg (qcv s.1) rm) / 4294967296:Nat):Int) ⟨hra.1,hra.2.1⟩
   refine⟨p1,fun k hk=>(p2 k hk).trans ?_⟩
   have hm:=mul_lt (rg (qcv s.1) rn) (rg (qcv s.1) rm)
   rw[qc1 (Nat.mod_lt _ (by omega)),qc1 (by omega),hwr rn hrn.1,hwr rm hrm.1]
   rfl
  ·have b17:(op==17)=false:=beq_eq_false_iff_ne.2 e17
   rw[b17,hmk]
   obtain⟨q1,q2⟩:=qy9 hwl hwr rd (vOf op imm ra (rg (qcv s.1) rd) (rg (qcv s.1) rn) (rg (qcv s.1) rm) ld) hrd
   refine⟨q1,fun k hk=>(q2 k hk).trans ?_⟩
   rw[ew rd hrd.1,ew rn hrn.1,ew rm hrm.1]
   rfl
theorem qH2 {k:Nat} (h:k<256):((toByte (k:Int)).toNat:Int)=(k:Int):=by
 have e:(UInt8.ofNat k).toNat=k % 256:=rfl
 show(((UInt8.ofNat k).toNat:Nat):Int)=_
 rw[e,Nat.mod_eq_of_lt h]
theorem qvU (m:Nat) (k:Nat) (hk:k≤24):((toByte (IntKind.u8.wrap (qw .i64 (m:Int) (k:Int)))).toNat:Int)=((m / 2 ^ k % 256:Nat):Int):=by
 have hs:qw .i64 (m:Int) (k:Int)=((m / 2 ^ k:Nat):Int):=by
  rw[qfL _ _ (by omega)]
  push_cast
  rfl
 rw[hs]
 have:IntKind.u8.wrap ((m / 2 ^ k:Nat):Int)=((m / 2 ^ k % 256:Nat):Int):=by
  generalize m / 2 ^ k=q
  show(q:Int) % 256=((q % 256:Nat):Int)
  omega
 rw[this]
 exact qH2 (Nat.mod_lt _ (by omega))
theorem qz7 (v:Int):qk0 v=[((wn v % 256:Nat):Int),((wn v / 256 % 256:Nat):Int),((wn v / 65536 % 256:Nat):Int),((wn v / 16777216 % 256:Nat):Int)]:=by
 show[((toByte (IntKind.u8.wrap (qw .i64 (wn v:Int) ((0:Nat):Int)))).toNat:Int),((toByte (IntKind.u8.wrap (qw .i64 (wn v:Int) ((8:Nat):Int)))).toNat:Int),
  ((toByte (IntKind.u8.wrap (qw .i64 (wn v:Int) ((16:Nat):Int)))).toNat:Int),((toByte (IntKind.u8.wrap (qw .i64 (wn v:Int) ((24:Nat):Int)))).toNat:Int)]=_
 rw[qvU _ 0 (by omega),qvU _ 8 (by omega),qvU _ 16 (by omega),qvU _ 24 (by omega),show(2:Nat) ^ 0=1 from rfl,show(2:Nat) ^ 8=256 from rfl,show(2:Nat) ^ 16=65536 from rfl,show(2:Nat) ^ 24=16777216 from rfl,Nat.div_one]
theorem qJo (l:List Int) (h:∀b∈l,0≤b∧b<256) (hl:l.length=4):qk0 (leV l)=l:=by
 obtain⟨a,b,c,d,rfl⟩:∃a b c d,l=[a,b,c,d]:=by
  match l,hl with
  |[a,b,c,d],_=>exact⟨a,b,c,d,rfl⟩
 have ha:=h a (by simp)
 have hb:=h b (by simp)
 have hc:=h c (by simp)
 have hd:=h d (by simp)
 rw[qz7]
 have e:wn (leV [a,b,c,d])=(a+256*(b+256*(c+256*d))).toNat:=by
  unfold leV leV leV leV leV wn
  omega
 rw[e]
 simp only[List.cons.injEq,and_true]
 omega
theorem qMB (v:Int):leV ((qk0 v).take 4)=(wn v:Int):=by
 have h:=qga v
 rw[qz7]
 show((wn v % 256:Nat):Int)+256*(((wn v / 256 % 256:Nat):Int)+256*(((wn v / 65536 % 256:Nat):Int)+256*(((wn v / 16777216 % 256:Nat):Int)+256*0)))=_
 omega
theorem qJY {α:Type} (xs:List α) (p:Nat) (ys:List α) (n:Nat) (hn:n≤ys.length) (h:p+n≤xs.length):((qdG xs p ys n).drop p).take n=ys.take n:=by
 unfold qdG
 have h1:(xs.take p).length=p:=by rw[List.length_take];omega
 have h2:(ys.take n).length=n:=by rw[List.length_take];omega
 rw[List.append_assoc,List.drop_append,List.drop_of_length_le (by omega),h1,Nat.sub_self,List.drop_zero,List.nil_append,List.take_append_of_le_length (by omega),List.take_of_length_le (by omega)]
end Go.Av
end
section
namespace Go.Av
open Go
def inW (b n a:Nat):Bool:=decide (b≤a∧a+4≤b+n)
def qdf (o r a:Nat):Option Nat :=
 bif a % 4 != 0 then none else bif inW 537001984 o a then some 2 else bif inW 537133056 r a then some 3 else bif inW 537395200 r a then some 4
 else bif inW 537919488 4 a then some 5 else bif inW 538968064 4 a then some 6 else none
def qiS (o r n a:Nat):Option Nat:=bif a % 4 != 0 then none else bif decide (a+4≤n) then some 0 else qdf o r a
structure SzOk (o r n:Nat):Prop where
 out:o≤65536
 rail:r≤65536
 flash:n≤262144
abbrev qcZ (o r n:Nat):List (Int×Int×Bool×Unit):=qfA ((0:Int),(o:Int),(r:Int),()) (n:Int)
theorem qxI {o r a:Nat} (h:a+4≤262144):qdf o r a=none:=by
 have h1:∀b n,537001984≤b→inW b n a=false:=fun b n hb=>decide_eq_false (by omega)
 unfold qdf
 rw[h1 _ _ (by omega),h1 _ _ (by omega),h1 _ _ (by omega),h1 _ _ (by omega),h1 _ _ (by omega)]
 cases (a % 4 != 0)<;>rfl
theorem qt3 (b n:Nat) (w:Bool) (a:Nat):hasB ((b:Int),(n:Int),w,()) (a:Int) 4=inW b n a:=by
 unfold hasB inW
 exact decide_eq_decide.2 (by dsimp only;omega)
theorem qR9 (a:Nat):((a:Int).tmod 4 != 0)=(a % 4 != 0):=by
 have e:(a:Int).tmod 4=((a % 4:Nat):Int):=by
  rw[Int.tmod_eq_emod_of_nonneg (by omega)]
  omega
 rw[e]
 generalize a % 4=k
 cases hk:(k != 0)
 ·have:k=0:=by simpa using hk
  subst this
  rfl
 ·have:k≠0:=by simpa using hk
  have h2:(k:Int)≠0:=by omega
  simpa using h2
theorem qvj {o r n:Nat} (hs:SzOk o r n) (a:Nat) (w:Bool):qn7 (qcZ o r n) (a:Int) 4 w=(match (bif w then qdf o r a else qiS o r n a) with
  |some j=>((j:Int),0,())
  |none=>(0,8,())):=by
 have h0:hasB ((0:Int),(n:Int),false,()) (a:Int) 4=decide (a+4≤n):=by
  have:=qt3 0 n false a
  refine Eq.trans this ?_
  unfold inW
  exact decide_eq_decide.2 (by omega)
 have h1:hasB ((536936448:Int),(0:Int),true,()) (a:Int) 4=false:=by
  have:=qt3 536936448 0 true a
  refine Eq.trans this ?_
  exact decide_eq_false (by omega)
 have h2:=qt3 537001984 o true a
 have h3:=qt3 537133056 r true a
 have h4:=qt3 537395200 r true a
 have h5:=qt3 537919488 4 true a
 have h6:=qt3 538968064 4 true a
 have hfl:(decide (a+4≤n))=true→qdf o r a=none:=fun h=>qxI (by have:=of_decide_eq_true h;have:=hs.flash;omega)
 have ex:qg0 (a:Int) 4 w (qcZ o r n)=bif decide (a+4≤n) then(bif w then none else some 0) else
   bif inW 537001984 o a then some 2 else bif inW 537133056 r a then some 3 else bif inW 537395200 r a then some 4
   else bif inW 537919488 4 a then some 5 else bif inW 538968064 4 a then some 6 else none:=by
  unfold qcZ qfA
  simp only[qg0]
  rw[h0,h1]
  have g2:hasB ((537001984:Int),(o:Int),true,()) (a:Int) 4=inW 537001984 o a:=h2
  have g3:hasB ((537133056:Int),(r:Int),true,()) (a:Int) 4=inW 537133056 r a:=h3
  have g4:hasB ((537395200:Int),(r:Int),true,()) (a:Int) 4=inW 537395200 r a:=h4
  have g5:hasB ((537919488:Int),(4:Int),true,()) (a:Int) 4=inW 537919488 4 a:=h5
  have g6:hasB ((538968064:Int),(4:Int),true,()) (a:Int) 4=inW 538968064 4 a:=h6
  rw[g2,g3,g4,g5,g6]
  cases decide (a+4≤n)<;>cases inW 537001984 o a<;>cases inW 537133056 r a<;>cases inW 537395200 r a<;>cases inW 537919488 4 a<;>cases inW 538968064 4 a<;>cases w<;>rfl
 unfold qn7
 rw[qR9,ex]
 unfold qiS
 have en:((4:Int) != 1&&(4:Int) != 4)=false:=rfl
 rw[en]
 cases hm:(a % 4 != 0)
 ·cases hd:decide (a+4≤n)
  ·unfold qdf
   rw[hm]
   cases inW 537001984 o a<;>cases inW 537133056 r a<;>cases inW 537395200 r a<;>cases inW 537919488 4 a<;>cases inW 538968064 4 a<;>cases w<;>rfl
  ·cases w
   ·rfl
   ·simp only[cond_true,cond_false]
    rw[hfl hd]
 ·have:qdf o r a=none:=by unfold qdf;rw[hm];rfl
  cases w
  ·rfl
  ·simp only[cond_true,cond_false]
   rw[this]
theorem qk3 {o r n a j:Nat} (hs:SzOk o r n) (h:qdf o r a=some j):qiS o r n a=some j:=by
 unfold qiS
 cases hd:decide (a+4≤n)
 ·cases hm:(a % 4 != 0)
  ·exact h
  ·unfold qdf at h
   rw[hm] at h
   cases h
 ·have:=qxI (o:=o) (r:=r) (a:=a) (by have:=of_decide_eq_true hd;have:=hs.flash;omega)
  rw[this] at h
  cases h
theorem qGl {o r n a j:Nat} (h:qiS o r n a=some j):a % 4=0:=by
 unfold qiS at h
 cases hm:(a % 4 != 0)
 ·simpa using hm
 ·rw[hm] at h
  cases h
theorem qpY {o r n a j:Nat} (hs:SzOk o r n) (h:qiS o r n a=some j):qg0 (a:Int) 4 false (qcZ o r n)=some j:=by
 have:=qvj hs a false
 simp only[cond_false] at this
 rw[h] at this
 rcases qpt (qcZ o r n) (a:Int) 4 false with⟨e,he,h2⟩ |⟨k,hk,_,_,h2⟩
 ·rw[h2] at this
  exact absurd (congrArg (fun p=>p.2.1) this) he
 ·rw[h2] at this
  have e:(k:Int)=(j:Int):=congrArg (fun p=>p.1) this
  rw[hk]
  congr 1
  omega
theorem qvA:∀(l:List (Int×Int×Bool×Unit)) (o j k:Nat),j<k→k<l.length→((qbC o l).getD j (0,0)).1+(l.getD j qew).2.1.toNat≤((qbC o l).getD k (0,0)).1:=by
 have ge:∀(l:List (Int×Int×Bool×Unit)) (o j:Nat),j<l.length→o≤((qbC o l).getD j (0,0)).1:=by
  intro l
  induction l with
  |nil=>intro o j h;cases h
  |cons r l ih =>
   intro o j h
   cases j with
   |zero=>exact Nat.le_refl _
   |succ j =>
    have:=ih (o+r.2.1.toNat) j (by simpa using h)
    show o≤((qbC (o+r.2.1.toNat) l).getD j (0,0)).1
    omega
 intro l
 induction l with
 |nil=>intro o j k _ h;cases h
 |cons r l ih =>
  intro o j k hjk h
  cases k with
  |zero=>cases hjk
  |succ k =>
   cases j with
   |zero=>exact ge l (o+r.2.1.toNat) k (by simpa using h)
   |succ j=>exact ih (o+r.2.1.toNat) j k (by omega) (by simpa using h)
theorem qNI {α:Type} (xs:List α) (p:Nat) (ys:List α) (q:Nat) (hy:ys.length=4) (hp:p+4≤xs.length) (h:q+4≤p∨p+4≤q):((qdG xs p ys 4).drop q).take 4=(xs.drop q).take 4:=by
 have hm:min ys.length 4=4:=by omega
 apply List.ext_getElem?
 intro i
 rw[List.getElem?_take,List.getElem?_take]
 by_cases hi:i<4
 ·rw[if_pos hi,if_pos hi,List.getElem?_drop,List.getElem?_drop,qBL _ _ _ _ _ (by rw[hm];exact hp),hm]
  by_cases c1:q+i<p
  ·rw[if_pos c1]
  ·rw[if_neg c1,if_neg (by omega)]
 ·rw[if_neg hi,if_neg hi]
def qcb (W:Nat→Nat) (a v:Nat):Nat→Nat:=fun b=>bif b==a then v else W b
theorem qlb (W:Nat→Nat) (a v:Nat):qcb W a v a=v:=by simp[qcb]
theorem qcR (W:Nat→Nat) {a b:Nat} (v:Nat) (h:b≠a):qcb W a v b=W b:=by
 unfold qcb
 rw[beq_eq_false_iff_ne.2 h]
 rfl
structure MW (o r n:Nat) (y:qcS) (W:Nat→Nat):Prop where
 wf:MemWf y
 regs:y.1.1=qcZ o r n
 wins:y.1.2.1=qbC 0 (qcZ o r n)
 word:∀a j,qiS o r n a=some j→leV ((y.2.drop (posM y j (a:Int))).take 4)=(W a:Int)
theorem qzt {o r n:Nat} (hs:SzOk o r n) {y:qcS} {W:Nat→Nat} (h:MW o r n y W) (a:Nat):ql6 y (a:Int) 4=bif (qiS o r n a).isSome then((W a:Int),0,()) else(0,8,()):=by
 unfold ql6
 rw[h.regs,qvj hs a false]
 simp only[cond_false]
 cases hr:qiS o r n a with
 |none=>rfl
 |some j =>
  have:=h.word a j hr
  show(leV ((y.2.drop (posM y ((j:Int)).toNat (a:Int))).take ((4:Int)).toNat),(0:Int),())=((W a:Int),0,())
  rw[Int.toNat_natCast]
  exact congrArg (fun v:Int=>(v,(0:Int),())) this
theorem qJr:∀(l:List Int),(∀b∈l,0≤b∧b<256)→l.length=4→0≤leV l∧leV l<4294967296
 |[a,b,c,d],h,_=>by
  have h1:=h a (by simp)
  have h2:=h b (by simp)
  have h3:=h c (by simp)
  have h4:=h d (by simp)
  simp only[leV]
  omega
theorem qR3 {o r n:Nat} (hs:SzOk o r n) {y:qcS} {W:Nat→Nat} (h:MW o r n y W) {a:Nat} (ha:(qiS o r n a).isSome=true):W a<4294967296:=by
 obtain⟨j,hj⟩:=Option.isSome_iff_exists.1 ha
 have hf:qg0 (a:Int) 4 false y.1.1=some j:=by rw[h.regs];exact qpY hs hj
 obtain⟨_,_,_,_,q5,_,_⟩:=qp5 h.wf hf (.inr rfl)
 have:=qJr ((y.2.drop (posM y j (a:Int))).take 4) (fun b hb=>h.wf.bytes b (List.mem_of_mem_drop (List.mem_of_mem_take hb))) (by
  rw[List.length_take,List.length_drop]
  have:posM y j (a:Int)+4≤y.2.length:=q5
  omega)
 rw[h.word a j hj] at this
 omega
theorem qMR {o r n:Nat} (hs:SzOk o r n) {y:qcS} {W:Nat→Nat} (h:MW o r n y W) (a v:Nat) :
  ((qdf o r a).isSome=true→(qd6 y (a:Int) 4 (v:Int)).1=0∧MW o r n (qd6 y (a:Int) 4 (v:Int)).2 (qcb W a (wn v))) ∧
  ((qdf o r a).isSome=false→(qd6 y (a:Int) 4 (v:Int)).1=8∧(qd6 y (a:Int) 4 (v:Int)).2=y):=by
 have hfw:=qvj hs a true
 simp only[cond_true] at hfw
 constructor
 ·intro ha
  obtain⟨j,hj⟩:=Option.isSome_iff_exists.1 ha
  rw[hj] at hfw
  have hst:qd6 y (a:Int) 4 (v:Int)=(0,(y.1,qdG y.2 (posM y j (a:Int)) (qk0 (v:Int)) 4)):=by
   unfold qd6
   rw[h.regs,hfw]
   rfl
  rw[hst]
  have hwf:=(qBU h.wf (a:Int) 4 (v:Int)).1
  rw[hst] at hwf
  refine⟨rfl,hwf,h.regs,h.wins,?_⟩
  have hjR:=qk3 (n:=n) hs hj
  have hfa:qg0 (a:Int) 4 false y.1.1=some j:=by rw[h.regs];exact qpY hs hjR
  obtain⟨a1,a2,a3,a4,a5,_,_⟩:=qp5 h.wf hfa (.inr rfl)
  have a5:posM y j (a:Int)+4≤y.2.length:=a5
  have hal:=qGl hjR
  intro b k hk
  have hbl:=qGl hk
  have hfb:qg0 (b:Int) 4 false y.1.1=some k:=by rw[h.regs];exact qpY hs hk
  obtain⟨b1,b2,b3,b4,b5,_,_⟩:=qp5 h.wf hfb (.inr rfl)
  show leV (((qdG y.2 (posM y j (a:Int)) (qk0 (v:Int)) 4).drop (posM y k (b:Int))).take 4)=_
  by_cases hab:b=a
  ·subst hab
   rw[hjR] at hk
   cases hk
   rw[qlb,qJY _ _ _ _ (by rw[qqn];exact Nat.le_refl _) a5,qMB]
  ·rw[qcR _ _ hab,qNI _ _ _ _ (qqn _) a5 ?_]
   ·exact h.word b k hk
   ·obtain⟨w1,_⟩:=h.wf.wins j a1
    obtain⟨w2,_⟩:=h.wf.wins k b1
    unfold posM
    rcases Nat.lt_trichotomy j k with hjk |hjk |hjk
    ·have:=qvA y.1.1 0 j k hjk b1
     rw[h.regs,←h.wins,←h.regs] at this
     generalize (y.1.2.1.getD j (0,0))=wj at *
     generalize (y.1.2.1.getD k (0,0))=wk at *
     generalize (y.1.1.getD j qew)=rj at *
     generalize (y.1.1.getD k qew)=rk at *
     omega
    ·subst hjk
     generalize (y.1.2.1.getD j (0,0))=wj at *
     generalize (y.1.1.getD j qew)=rj at *
     omega
    ·have:=qvA y.1.1 0 k j hjk a1
     rw[h.regs,←h.wins,←h.regs] at this
     generalize (y.1.2.1.getD j (0,0))=wj at *
     generalize (y.1.2.1.getD k (0,0))=wk at *
     generalize (y.1.1.getD j qew)=rj at *
     generalize (y.1.1.getD k qew)=rk at *
     omega
 ·intro ha
  cases hj:qdf o r a with
  |some j=>rw[hj] at ha;cases ha
  |none =>
   rw[hj] at hfw
   have hst:qd6 y (a:Int) 4 (v:Int)=(8,y):=by
    unfold qd6
    rw[h.regs,hfw]
    rfl
   rw[hst]
   exact⟨rfl,rfl⟩
end Go.Av
end
