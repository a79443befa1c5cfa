/- Texts of the proof, one behind the other. -/
import Derived.Test.YtamnhodjidmlcaaGreatCampaignSomeK7
import Derived.Test.YtamnhodjidmlcaaGreatCampaignSomeK6
section
namespace Go.Av
open Go
theorem qNa {y:qer} (h:MemWf y) {i o r n:Int} (hr:y.1.1=qd7 (i,o,r,()) n) (hn:n≤1000000) (hi:i≤1000000) (ho:o≤1000000) (hrr:r≤1000000) (k:Int):(qky k y).1.length≤1000000:=by
 unfold qky qq6
 cases hk:(decide (k<0)||decide (k≥qh y.1.2.1)) with
 |true=>exact(by decide:(0:Nat)≤1000000)
 |false =>
  simp only[Bool.or_eq_false_iff,decide_eq_false_iff_not,qh] at hk
  have hi':k.toNat<y.1.1.length:=by rw[h.len];omega
  obtain⟨h1,_⟩:=h.wins _ hi'
  have hmem:y.1.1.getD k.toNat qbK∈y.1.1:=by
   rw[List.getD_eq_getElem?_getD,List.getElem?_eq_getElem hi']
   exact List.getElem_mem hi'
  have h2:(y.1.1.getD k.toNat qbK).2.1≤1000000:=by
   generalize y.1.1.getD k.toNat qbK=q at hmem
   rw[hr] at hmem
   simp only[qd7,List.mem_cons,List.not_mem_nil,or_false] at hmem
   rcases hmem with e |e |e |e |e |e |e<;>subst e<;>dsimp only<;>omega
  show(bytesOf (shown y.2 (wAt y.1.2.1 k))).length≤1000000
  have h3:(bytesOf (shown y.2 (wAt y.1.2.1 k))).length≤(y.1.2.1.getD k.toNat (0,0)).2:=by
   unfold bytesOf shown wAt
   rw[List.length_map,List.length_take]
   exact Nat.min_le_left _ _
  omega
theorem qsN (r:qcg.den) (h1:List.length r.2.2.2.2.2.2.1≤1000000) (h2:List.length r.2.2.2.2.2.2.2.1≤1000000) (h3:List.length r.2.2.2.2.2.2.2.2.1≤1000000):qbl r=true∧qbn r=qbD r:=by
 have g:∀l:List UInt8,l.length≤1000000→qem l=true∧qeS l=true:=fun l hl=>⟨qK (show List.length l<_ by omega),qK (show List.length l<_ by omega)⟩
 have zs:∀l:List UInt8,qbN l=(qcZ l==0):=fun l=>(qEs l).symm
 have e1:(qgg r).val=some (r.2.2.2.2.1==0&&(qbN r.2.2.2.2.2.2.1&&(qbN r.2.2.2.2.2.2.2.1&&qbN r.2.2.2.2.2.2.2.2.1))):=by
  simp[qgg,PO.val,(g _ h1).1,(g _ h2).1,(g _ h3).1]
 have e2:(qe5 r).val=some (r.2.2.2.2.1==0&&(qbN r.2.2.2.2.2.2.1&&(qbN r.2.2.2.2.2.2.2.1&&qbN r.2.2.2.2.2.2.2.2.1))):=by
  simp[qe5,PO.val,(g _ h1).2,(g _ h2).2,(g _ h3).2,zs]
 exact⟨by rw[qbl,e2];rfl,by rw[qbD,qbn,PO.qQ,PO.qQ,e1,e2]⟩
theorem qMh (img inp:List UInt8) (f:qw.den) (b:Int):qbl (qcw img inp f b).1=true∧qbn (qcw img inp f b).1=qbD (qcw img inp f b).1:=by
 unfold qcw
 cases h1:((qS img).2.1 != (0:Int)) with
 |true=>exact qsN qrO (by decide) (by decide) (by decide)
 |false =>
 cases h2:(qh inp != (qS img).1.2.2.1.1) with
 |true=>exact qsN qrO (by decide) (by decide) (by decide)
 |false =>
 cases h3:(qE f != 0||(decide (b<0)||decide (b > 67108864))) with
 |true=>exact qsN qrO (by decide) (by decide) (by decide)
 |false =>
  obtain⟨rs,hn,i,o,r,md,e,f1,f2,f3,f4,f5⟩:=qlv img h1
  have hwf:=qt8 rs hn i o r md img inp f1 f2 f3 f4
  obtain⟨a,b',c,d⟩:=qib i o r _ f1
  have f4:qh img≤262144:=f4
  show qbl (qtz (qcA (qS img).1 img inp) f b)=true∧qbn (qtz (qcA (qS img).1 img inp) f b)=qbD (qtz (qcA (qS img).1 img inp) f b)
  rw[e]
  have hm:=qI2 (rs,hn,(i,o,r,()),md,()) img f hwf.hand b.toNat 0 (qbF (qcA (rs,hn,(i,o,r,()),md,()) img inp)) hwf.mem hwf.regs
  have hr:=fun k=>qNa hm.1 (i:=i) (o:=o) (r:=r) (n:=qh img) (congrArg (fun q=>q.1) hm.2.2) (by omega) (by omega) (by omega) (by omega) k
  exact qsN _ (hr 2) (hr 3) (hr 4)
theorem qNo (b:Bool):qd b=b01 b:=by cases b<;>rfl
theorem qMk (r:qcg.den):(qU r).1=(0:Int)∨(qU r).1=(1:Int)∨(qU r).1=(2:Int)∨(qU r).1=(3:Int):=by
 unfold qU PO.qQ qoa
 simp only[PO.val]
 cases r.1
 ·exact .inl rfl
 ·cases (r.2.2.2.2.1==(3235799053:Int))
  ·cases (r.2.2.2.2.2.1==(195890093:Int))
   ·exact .inr (.inr (.inr rfl))
   ·exact .inr (.inr (.inl rfl))
  ·exact .inr (.inl rfl)
theorem of_same (r:qcg.den):qj r=qU r:=rfl
theorem qPW (r:qcg.den) (o:qfL.den) (hw:qbl r=true∧qbn r=qbD r):(qfN (r,o.1,o.2.1)).val=some (qc1 (r,o)):=by
 obtain⟨k,out,⟨⟩⟩:=o
 obtain⟨w1,w2⟩:=hw
 unfold qfN qc1
 simp only[of_same,qNo,w1,w2]
 have hk:=qMk r
 have he:Ty.eqb qfL (qU r) (k,out,())=((qU r).1==k&&((qU r).2.1==out&&true)):=rfl
 rw[he,Bool.and_true]
 generalize (qU r).1=K at *
 generalize ((qU r).2.1==out)=E
 generalize qbD r=W
 generalize decide (r.2.2.2.1 > 0)=H
 have e1:(K==(1:Int))=true→(k==(1:Int))=(K==k):=fun h=>by
  simp only[beq_iff_eq] at h
  subst h
  rw[Bool.eq_iff_iff]
  simp only[beq_iff_eq]
  exact eq_comm
 cases h1:(K==(1:Int)) with
 |true =>
  have e2:=e1 h1
  simp only[beq_iff_eq] at h1
  subst h1
  rw[←e2]
  cases h2:(k==(1:Int))<;>cases H<;>cases E<;>cases W<;>rfl
 |false =>
  have e4:(!false&&(!(K==(2:Int))&&!(K==(3:Int))))=(K==(0:Int)):=by
   rcases hk with rfl |rfl |rfl |rfl<;>first|rfl |(cases h1)
  rw[e4]
  cases h2:(k==(1:Int))<;>cases H<;>cases E<;>cases W<;>rfl
theorem qQa {img inp:List UInt8} {f:qw.den} {b:Int} (h:(qcw img inp f b).2.1=(0:Int)) :
  ((qS img).2.1 != (0:Int))=false∧(qh inp != (qS img).1.2.2.1.1)=false∧qE f=0∧(0≤b∧b≤67108864)∧qcw img inp f b=(qtz (qcA (qS img).1 img inp) f b,0,()):=by
 cases h1:((qS img).2.1 != (0:Int)) with
 |true=>obtain⟨e,he,hr⟩:=qG9 (inp:=inp) (.inl h1);rw[hr] at h;exact(he h).elim
 |false =>
 cases h2:(qh inp != (qS img).1.2.2.1.1) with
 |true=>obtain⟨e,he,hr⟩:=qG9 (.inr h2);rw[hr] at h;exact(he h).elim
 |false =>
 unfold qcw at h ⊢
 rw[h1,h2] at h ⊢
 cases h3:(qE f != 0||(decide (b<0)||decide (b > 67108864))) with
 |true=>rw[h3] at h;cases h
 |false =>
  simp only[Bool.or_eq_false_iff,decide_eq_false_iff_not,bne_eq_false_iff_eq] at h3
  exact⟨rfl,rfl,h3.1,⟨by omega,by omega⟩,rfl⟩
theorem qMs (img:List UInt8) (h:((qS img).2.1 != (0:Int))=false):0≤qdM img∧qdM img≤10000000:=by
 obtain⟨rs,hn,i,o,r,md,e,f1,f2,f3,f4,f5⟩:=qlv img h
 obtain⟨h1,h2,h3,h4⟩:=qib i o r _ f1
 have e1:qdM img=qc3 (i,o,r,()):=by
  show qc3 (qS img).1.2.2.1=_
  rw[e]
 rw[e1]
 unfold qc3 PO.qQ qiz
 cases hc:(q7 ((i,o,r,()),0) != (0:Int)) with
 |true=>rw[show(PO.ite true (PO.ret 0) (PO.ret (w64 (w64 (32*w64 (o+w64 (2*r)))+256)))).val=some (0:Int) from rfl];exact⟨Int.le_refl 0,by decide⟩
 |false =>
  rw[show(PO.ite false (PO.ret 0) (PO.ret (w64 (w64 (32*w64 (o+w64 (2*r)))+256)))).val=some (w64 (w64 (32*w64 (o+w64 (2*r)))+256)) from rfl]
  show 0≤w64 (w64 (32*w64 (o+w64 (2*r)))+256)∧w64 (w64 (32*w64 (o+w64 (2*r)))+256)≤10000000
  rw[qt (n:=2*r) (by omega) (by omega),qt (n:=o+2*r) (by omega) (by omega),qt (n:=32*(o+2*r)) (by omega) (by omega),qt (by omega) (by omega)]
  omega
theorem qLm (img:List UInt8) (h:((qS img).2.1 != (0:Int))=false):qcU (qS img).1.2.2.1=qdM img:=by
 obtain⟨rs,hn,i,o,r,md,e,f1,f2,f3,f4,f5⟩:=qlv img h
 obtain⟨h1,h2,h3,h4⟩:=qib i o r _ f1
 have e1:qdM img=qc3 (i,o,r,()):=by
  show qc3 (qS img).1.2.2.1=_
  rw[e]
 rw[e1,e]
 show qcU (i,o,r,())=_
 have hk:q7 ((i,o,r,()),0)=qbb ((i,o,r,()),0):=qrL i o r 0 ⟨by omega,by omega⟩
 unfold qcU qc3 PO.qQ qgr qiz
 rw[←hk]
 cases hv:(q7 ((i,o,r,()),0) != (0:Int)) with
 |true=>rfl
 |false =>
  show w64 (w64 (256+w64 (32*o))+w64 (64*r))=w64 (w64 (32*w64 (o+w64 (2*r)))+256)
  rw[qt (n:=2*r) (by omega) (by omega),qt (n:=o+2*r) (by omega) (by omega),qt (n:=32*(o+2*r)) (by omega) (by omega),qt (n:=32*o) (by omega) (by omega),qt (n:=64*r) (by omega) (by omega),qt (n:=256+32*o) (by omega) (by omega)]
  congr 1
  omega
theorem qQl {img inp:List UInt8} (hP:((qS img).2.1 != (0:Int))=false) (hI:(qh inp != (qS img).1.2.2.1.1)=false) {b2:Int} (f:qw.den) (hf:qE f≠0):qcw img inp f b2=(qrO,2,()):=by
 unfold qcw
 rw[hP,hI]
 have:(qE f != (0:Int))=true:=by simpa using hf
 rw[this]
 rfl
theorem qJc {img inp:List UInt8} (hP:((qS img).2.1 != (0:Int))=false) (hI:(qh inp != (qS img).1.2.2.1.1)=false) {b2:Int} (hB:0≤b2∧b2≤67108864) (right:qfL.den):∀(l:List qw.den) (c:qcn.den),(l.all fun f=>qE f==(0:Int))=false→qpF img inp b2 right l c=(qdb,2,())
 |[],_,h=>by cases h
 |f::l,c,h=>by
  rw[qpF]
  cases hf:(qE f==(0:Int)) with
  |false =>
   rw[qQl hP hI f (by simpa using hf)]
   rfl
  |true =>
   have hf0:qE f=0:=by simpa using hf
   rw[qCj hP hI f b2 hf0 hB]
   rw[List.all_cons,hf,Bool.true_and] at h
   exact qJc hP hI hB right l _ h
theorem qDC {img inp:List UInt8} (hP:((qS img).2.1 != (0:Int))=false) (hI:(qh inp != (qS img).1.2.2.1.1)=false) {b2:Int} (hB:0≤b2∧b2≤67108864) (right:qfL.den):∀(l:List qw.den) (c:qcn.den),(l.all fun f=>qE f==(0:Int))=true→(qpF img inp b2 right l c).2=(0,())
 |[],_,_=>rfl
 |f::l,c,h=>by
  rw[List.all_cons,Bool.and_eq_true] at h
  rw[qpF,qCj hP hI f b2 (by simpa using h.1) hB]
  exact qDC hP hI hB right l _ h.2
theorem qKK (img inp:List UInt8) (b sl:Int) (l:List qw.den) (hl:l.length<9223372036854775807) (r:qcg.den) (x:ql qeA.ss) (hx:x.2.2.1=l) (y:ql qeA.hs) :
  ∀(n i:Nat),i+n=l.length→∃q st,qcF (qeA.turn x y) (n+1) ((0:Int),(i:Int),qdb,r)=some (q,st)∧st.2.2.1=qdb∧st.2.2.2=r ∧
   way q=((l.drop i).all fun f=>qE f==(0:Int))∧(way q=false→st.1=(2:Int))
 |0,i,h=>by
  refine⟨0,_,qbg ((qv ?_).trans rfl),rfl,rfl,?_,fun h=>by cases h⟩
  ·show decide ((i:Int)<qh x.2.2.1)=false
   rw[hx]
   exact qW (by simp only[qh];omega)
  ·rw[List.drop_of_length_le (by omega)]
   rfl
 |n+1,i,h=>by
  have hi:i<l.length:=by omega
  have hd:l.drop i=l.getD i (Ty.dflt qw)::l.drop (i+1):=by
   rw[List.drop_eq_getElem_cons hi,List.getD_eq_getElem?_getD,List.getElem?_eq_getElem hi]
   rfl
  have hg:List.getD x.2.2.1 (Int.toNat (i:Int)) (Ty.dflt qw)=l.getD i (Ty.dflt qw):=by rw[hx,Int.toNat_natCast]
  have c1:decide ((i:Int)<qh x.2.2.1)=true:=by rw[hx];exact qK (by simp only[qh];omega)
  have c2:(inRange (i:Int) (List.length x.2.2.1)&&true)=true:=by rw[hx,inR hi];rfl
  rw[hd,List.all_cons]
  generalize l.getD i (Ty.dflt qw)=f at *
  have hcc:(qb4 (List.getD x.2.2.1 (Int.toNat (i:Int)) (Ty.dflt qw)) != (0:Int))=!(qE f==(0:Int)):=by
   rw[hg,quL]
   rfl
  cases hf:(qE f==(0:Int)) with
  |false =>
   rw[hf] at hcc
   refine⟨1,(2,(i:Int),qdb,r),qbg ?_,rfl,rfl,rfl,fun _=>rfl⟩
   refine(qe c1).trans ?_
   refine(qe c2).trans ?_
   exact(qe hcc).trans rfl
  |true =>
   rw[hf] at hcc
   obtain⟨q,st,e1,e2,e3,e4,e5⟩:=qKK img inp b sl l hl r x hx y n (i+1) (by omega)
   refine⟨q,st,(qcx (s':=((0:Int),((i+1:Nat):Int),qdb,r)) ?_).trans e1,e2,e3,by rw[e4,Bool.true_and],e5⟩
   refine(qe c1).trans ?_
   refine(qe c2).trans ?_
   refine(qv hcc).trans ?_
   show some (TL.on ((0:Int),w64 ((i:Int)+1),qdb,r))=_
   rw[qt (n:=(i:Int)+1) (by omega) (by omega)]
   rfl
theorem qDZ {img inp:List UInt8} (hP:((qS img).2.1 != (0:Int))=false) (hI:(qh inp != (qS img).1.2.2.1.1)=false) (himg:img.length<9223372036854775808) (b sl b2:Int) (hw:w64 (b+sl)=b2) (hB:0≤b2∧b2≤67108864) (right:qfL.den) (l:List qw.den) (hl:l.length<9223372036854775807) (hok:(l.all fun f=>qE f==(0:Int))=true) (z:qcn.den) (x:ql qel.ss) (hx:x=(img,inp,l,b,(),sl,right.1,right.2.1,(),0)) (y:ql qel.hs) :
  ∀(n i:Nat) (c:qcn.den),i+n=l.length→qcF (qel.turn x y) (n+1) ((i:Int),z,c)=some (0,(((l.length:Nat):Int),z,(qpF img inp b2 right (l.drop i) c).1))
 |0,i,c,h=>by
  subst hx
  refine(qbg (c:=0) ((qv (qW (show ¬(i:Int)<qh l by simp only[qh];omega))).trans rfl)).trans ?_
  rw[List.drop_of_length_le (by omega),show i=l.length by omega]
  rfl
 |n+1,i,c,h=>by
  have hi:i<l.length:=by omega
  have hd:l.drop i=l.getD i (Ty.dflt qw)::l.drop (i+1):=by
   rw[List.drop_eq_getElem_cons hi,List.getD_eq_getElem?_getD,List.getElem?_eq_getElem hi]
   rfl
  have hmem:l.getD i (Ty.dflt qw)∈l:=by
   rw[List.getD_eq_getElem?_getD,List.getElem?_eq_getElem hi]
   exact List.getElem_mem hi
  have hck:qE (l.getD i (Ty.dflt qw))=0:=by simpa using List.all_eq_true.1 hok _ hmem
  have hg:List.getD l (Int.toNat (i:Int)) (Ty.dflt qw)=l.getD i (Ty.dflt qw):=by rw[Int.toNat_natCast]
  rw[hd,qpF]
  generalize l.getD i (Ty.dflt qw)=f at *
  obtain⟨g,v⟩:=qLp img inp f b2 himg
  have hr:=qCj hP hI f b2 hck hB
  have hO:=qPW (qcw img inp f b2).1 right (qMh img inp f b2)
  have gO:qeK ((qcw img inp f b2).1,right.1,right.2.1)=true:=by unfold qeK;rw[hO];rfl
  have vO:qeO ((qcw img inp f b2).1,right.1,right.2.1)=qc1 ((qcw img inp f b2).1,right):=by unfold qeO PO.qQ;rw[hO];rfl
  have h0:((qcw img inp f b2).2.1 != (0:Int))=false:=by rw[hr];rfl
  rw[h0]
  have ih:=qDZ hP hI himg b sl b2 hw hB right l hl hok z x hx y n (i+1) (qeh (c,qc1 ((qcw img inp f b2).1,right))) (by omega)
  refine(qcx ?_).trans ih
  subst hx
  refine(qe (qK (show(i:Int)<qh l by simp only[qh];omega))).trans ?_
  refine(qe (inR hi)).trans ?_
  refine(qe (by show qdx (img,inp,List.getD l (Int.toNat (i:Int)) (Ty.dflt qw),w64 (b+sl))=true;rw[hg,hw];exact g)).trans ?_
  refine(qe (by show qeK ((qbZ (img,inp,List.getD l (Int.toNat (i:Int)) (Ty.dflt qw),w64 (b+sl))).1,right.1,right.2.1)=true;rw[hg,hw,v];exact gO)).trans ?_
  show some (TL.on (w64 ((i:Int)+1),z,qeh (c,qeO ((qbZ (img,inp,List.getD l (Int.toNat (i:Int)) (Ty.dflt qw),w64 (b+sl))).1,right.1,right.2.1))))=_
  rw[hg,hw,v,vO,qt (n:=(i:Int)+1) (by omega) (by omega)]
  rfl
theorem qMa (img inp:List UInt8) (l:List qw.den) (b:Int) (himg:img.length<9223372036854775808) (hl:l.length<9223372036854775807):(qfq (img,inp,l,b)).val=some (qua img inp l b):=by
 obtain⟨g,v⟩:=qLp img inp qc2 b himg
 obtain⟨gp,vp⟩:=qCs img himg
 unfold qfq qua
 refine(qe g).trans ?_
 simp only[v]
 cases hr:((qcw img inp qc2 b).2.1 != (0:Int)) with
 |true=>exact(qe rfl).trans rfl
 |false =>
  refine(qv rfl).trans ((qe gp).trans ?_)
  obtain⟨hP,hI,_,hb,_⟩:=qQa (by simpa using hr)
  obtain⟨sl0,sl1⟩:=qMs img hP
  rw[vp,qLm img hP]
  obtain⟨q,st,e1,e2,e3,e4,e5⟩:=qKK img inp b (qdM img) l hl (qcw img inp qc2 b).1 (img,inp,l,b,(),0,(),qdM img,0) rfl (qdb,(qcw img inp qc2 b).1) l.length 0 (by omega)
  rw[List.drop_zero] at e4
  refine(qdl (r:=(q,st)) e1).trans ?_
  have hw:w64 (b+qdM img)=b+qdM img:=qt (by omega) (by omega)
  simp only[cond_false]
  cases hq:way q with
  |false =>
   rw[hq] at e4
   refine(qv rfl).trans ?_
   show some (st.2.2.1,st.1,())=_
   rw[e2,e5 hq]
   cases hbig:decide (w64 (b+qdM img) > 67108864) with
   |true=>rfl
   |false =>
    have hle:¬(w64 (b+qdM img) > 67108864):=of_decide_eq_false hbig
    rw[cond_false,qJc hP hI (by rw[hw] at hle ⊢;omega) _ l qdb e4.symm]
  |true =>
   rw[hq] at e4
   refine(qe rfl).trans ?_
   show(PO.ite (decide (w64 (b+qdM img) > 67108864)) _ _).val=_
   cases hbig:decide (w64 (b+qdM img) > 67108864) with
   |true=>exact(qe rfl).trans rfl
   |false =>
    have hle:¬(w64 (b+qdM img) > 67108864):=of_decide_eq_false hbig
    have hB:0≤w64 (b+qdM img)∧w64 (b+qdM img)≤67108864:=by rw[hw] at hle ⊢;omega
    refine(qv rfl).trans ?_
    have key:=qDZ hP hI himg b (qdM img) (w64 (b+qdM img)) rfl hB (qU (qcw img inp qc2 b).1) l hl e4.symm st.2.2.1 (img,inp,l,b,(),qdM img,(qU (qcw img inp qc2 b).1).1,(qU (qcw img inp qc2 b).1).2.1,(),0) rfl (st.2.2.1,qdb) l.length 0 qdb (by omega)
    rw[List.drop_zero] at key
    have hg:=qDC hP hI hB (qU (qcw img inp qc2 b).1) l qdb e4.symm
    refine(qdl (r:=(0,(((l.length:Nat):Int),st.2.2.1,(qpF img inp (w64 (b+qdM img)) (qU (qcw img inp qc2 b).1) l qdb).1))) ?_).trans ?_
    ·rw[show st.2.2.2=(qcw img inp qc2 b).1 from e3]
     exact key
    ·show some ((qpF img inp (w64 (b+qdM img)) (qU (qcw img inp qc2 b).1) l qdb).1,(0:Int),())=_
     rw[←hg]
     rfl
theorem qym (img inp:List UInt8) (l:List qw.den) (b g:Int) (hl:l.length<9223372036854775807) (x:ql qcS.ss) (hx:x.2.2.1=l) (y:ql qcS.hs) :
  ∀(n i:Nat) (e:Bool),i+n=l.length→∃st,qcF (qcS.turn x y) (n+1) (e,(i:Int))=some (0,st)
 |0,i,e,h=>by
  refine⟨_,qbg (c:=0) ((qv ?_).trans rfl)⟩
  show(decide ((i:Int)<qh x.2.2.1)&&x.2.2.2.2.1==(0:Int))=false
  rw[hx,qW (show ¬(i:Int)<qh l by simp only[qh];omega),Bool.false_and]
 |n+1,i,e,h=>by
  have hi:i<l.length:=by omega
  cases hc:(decide ((i:Int)<qh x.2.2.1)&&x.2.2.2.2.1==(0:Int)) with
  |false=>exact⟨_,qbg (c:=0) ((qv hc).trans rfl)⟩
  |true =>
   have hin:inRange (i:Int) (List.length x.2.2.1)=true:=by rw[hx];exact inR hi
   obtain⟨st,hst⟩:=qym img inp l b g hl x hx y n (i+1) (e||(qc7 (x.1,x.2.1,List.getD x.2.2.1 (Int.toNat (i:Int)) (Ty.dflt qw),300)).2.1==0&&!(qc7 (x.1,x.2.1,List.getD x.2.2.1 (Int.toNat (i:Int)) (Ty.dflt qw),300)).1.1) (by omega)
   refine⟨st,(qcx ?_).trans hst⟩
   refine(qe hc).trans ((qe hin).trans ?_)
   show some (TL.on (_,w64 ((i:Int)+1)))=_
   rw[qt (n:=(i:Int)+1) (by omega) (by omega)]
   rfl
theorem qq0 (x:qc qb1) (hx:qx3 maxLen qb1 x):(qil x).val=some true:=by
 obtain⟨img,inp,l,b⟩:=x
 have himg:img.length<9223372036854775808:=Nat.lt_of_le_of_lt hx.1 (by decide)
 obtain⟨gp,vp⟩:=qCs img himg
 obtain⟨g,v⟩:=qLp img inp qc2 b himg
 unfold qil
 refine(qe gp).trans ?_
 by_cases hlen:qh l > 4
 ·refine(qe ?_).trans rfl
  show(decide (qh img > 400)||bif decide (b > 60) then decide (b≤67108864)||(decide (qh l > 4)||_) else decide (qh l > 4)||_)=true
  rw[qK hlen]
  cases decide (b > 60)<;>simp
 ·have hl:l.length<9223372036854775807:=by simp only[qh] at hlen;omega
  cases hc:(decide (qh img > 400)||bif decide (b > 60) then decide (b≤67108864)||(decide (qh l > 4)||(qR img).2.1==0&&decide (w64 ((qR img).1.2.2.1.2.1+(qR img).1.2.2.1.2.2.1) > 400)) else decide (qh l > 4)||(qR img).2.1==0&&decide (w64 ((qR img).1.2.2.1.2.1+(qR img).1.2.2.1.2.2.1) > 400)) with
  |true=>exact(qe rfl).trans rfl
  |false =>
   refine(qv rfl).trans ((qe g).trans ?_)
   obtain⟨st,hst⟩:=qym img inp l b 0 hl (img,inp,l,b,(qbZ (img,inp,qc2,b)).2.1,false,0) rfl () l.length 0 false (by omega)
   refine(qdl (r:=(0,st)) hst).trans ?_
   show(PO.ite st.1 _ _).val=some true
   cases st.1 with
   |true=>exact(qe rfl).trans rfl
   |false =>
    have h:=qMa img inp l b himg hl
    have gs:qfu (img,inp,l,b)=true:=by unfold qfu;rw[h];rfl
    have vs:qcu (img,inp,l,b)=qua img inp l b:=by unfold qcu PO.qQ;rw[h];rfl
    have gc:qlj (img,inp,l,b)=true:=decide_eq_true (show l.length<9223372036854775808 by omega)
    refine(qv rfl).trans ((qe gc).trans ((qe gs).trans ((qe qSd).trans ?_)))
    show some (Ty.eqb qcn (qua img inp l b).1 (qcu (img,inp,l,b)).1&&((qua img inp l b).2.1==(qcu (img,inp,l,b)).2.1&&true))=some true
    rw[vs,qvZ]
    simp
end Go.Av
end
