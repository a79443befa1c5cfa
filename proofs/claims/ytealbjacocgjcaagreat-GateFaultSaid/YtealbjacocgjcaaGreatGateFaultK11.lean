/- Texts of the proof, one behind the other. -/
import Derived.Test.YtealbjacocgjcaaGreatGateFaultK10
section
namespace Go.Av
open Go
structure qdk (w:World) (K:Kinds) (h:q9):Prop where
 cells:∀b id,b<w.heap.size→K b=.box id→∃av o,look id h=some av∧w.heap[b]?=some o∧qbA w K av.sh av.v o
 uniq:∀b b' id,b<w.heap.size→b' < w.heap.size→K b=.box id→K b'=.box id→b=b'
theorem Rel.heapOk {fr:Fr} {n:Nat} {K:Kinds} {s:St} {a:Act} {w:World} (h:Rel fr n K s a w):qdk w K s.heap:=⟨h.heap,h.uniq⟩
def qbh (ts bs:List Nat) (K:Kinds):Kinds:=fun b =>
 match K b with
 | .old=>.old
 | .far u=>.far u
 | .box id=>(match qbo id bs 0 with
  |some j=>.box j
  |none=>.far 0)
 | .row id u=>(match qbo id ts 0 with
  |some j=>.row j u
  |none=>.far u)
def qbT (ρ σ:Nat→Option Nat):Kind→Kind
 | .old=>.old
 | .far u=>.far u
 | .box j=>(match σ j with
  |some id=>.box id
  |none=>.far 0)
 | .row j u=>(match ρ j with
  |some id=>.row id u
  |none=>.far u)
def qck (N:Nat) (ts bs:List Nat) (w:World) (K K':Kinds):Kinds:=fun b =>
 if b<w.heap.size then
  match K b with
  | .old=>.old
  | .far u=>.far u
  | .box id=>.box id
  | .row id u=>if ts.contains id then qbT (qbv N ts) (qbv N bs) (K' b) else .row id u
 else qbT (qbv N ts) (qbv N bs) (K' b)
theorem qfh {id:Nat}:∀(l:List Nat) (k j:Nat),qbo id l k=some j→∃i,j=k+i∧l[i]?=some id
 |[],_,_,h=>by cases h
 |x::l,k,j,h=>by
  simp only[qbo] at h
  split at h
  ·rename_i e
   cases h
   exact⟨0,rfl,by simp at e;simp[e]⟩
  ·obtain⟨i,h1,h2⟩:=qfh l (k+1) j h
   exact⟨i+1,by omega,by simpa using h2⟩
theorem qta {id:Nat}:∀(l:List Nat) (k:Nat),l.contains id=true→(qbo id l k).isSome=true
 |[],_,h=>by simp at h
 |x::l,k,h=>by
  simp only[qbo]
  split
  ·rfl
  ·rename_i e
   simp only[beq_iff_eq] at e
   refine qta l (k+1) ?_
   simp only[List.contains_cons,Bool.or_eq_true,beq_iff_eq] at h
   rcases h with h |h
   ·exact(e h).elim
   ·exact h
theorem qeN {l:List Nat} {i id:Nat} (h:l[i]?=some id):l.contains id=true:=by
 have:=List.mem_of_getElem? h
 simpa using this
theorem qnm (ts bs:List Nat) (K:Kinds) (b o:Nat):qcY (qbh ts bs K) b o↔qcY K b o:=by
 unfold qcY qbh
 cases e:K b with
 |old=>exact Iff.rfl
 |far u=>exact Iff.rfl
 |box id=>simp only;cases h:qbo id bs 0<;>simp[qwi]
 |row id u=>simp only;cases h:qbo id ts 0<;>simp[qwi]
theorem qlx (ρ σ:Nat→Option Nat) (k:Kind) (o:Nat):qwi (qbT ρ σ k) o↔qwi k o:=by
 cases k with
 |old=>exact Iff.rfl
 |far u=>exact Iff.rfl
 |box id=>simp only[qbT];cases σ id<;>simp[qwi]
 |row id u=>simp only[qbT];cases ρ id<;>exact Iff.rfl
section
variable {w w':World} {K K':Kinds} {N:Nat} {ts bs:List Nat}
theorem qmb {b:Nat} (h:(K b).fixed=true):qbh ts bs K b=K b:=by
 unfold qbh
 cases e:K b with
 |old=>rfl
 |far u=>rfl
 |box id=>rw[e] at h;cases h
 |row id u=>rw[e] at h;cases h
theorem RV.enter {ρ σ:Nat→Option Nat} (hρ:∀id j,ρ id=some j→qbo id ts 0=some j) (hσ:∀id j,σ id=some j→qbo id bs 0=some j) {a:AV} {v:Value} (h:RV w K a v):RV w (qbh ts bs K) (a.ren ρ σ) v:=by
 refine RV.ren (w':=w) (K':=qbh ts bs K) (fun b o _ hs=>⟨(qnm _ _ _ _ _).2 hs,rfl⟩) (Nat.le_refl _) (fun b id u j _ hk hj=>⟨?_,rfl⟩) (fun b id j _ hk hj=>?_) h
 ·unfold qbh;rw[hk];simp only[hρ _ _ hj]
 ·exact⟨by unfold qbh;rw[hk];simp only[hσ _ _ hj],fun _ h=>h⟩
theorem RS.enter {ρ σ:Nat→Option Nat} (hρ:∀id j,ρ id=some j→qbo id ts 0=some j) (hσ:∀id j,σ id=some j→qbo id bs 0=some j) {a:AV} {cs:List Value} (h:RS w K a.sh a.v cs) :
  RS w (qbh ts bs K) (a.ren ρ σ).sh (a.ren ρ σ).v cs:=by
 have:=RS.ren (w':=w) (K':=qbh ts bs K) (ρ:=ρ) (σ:=σ) (fun b o _ hs=>⟨(qnm _ _ _ _ _).2 hs,rfl⟩) (Nat.le_refl _) (fun b id u j _ hk hj=>⟨by unfold qbh;rw[hk];simp only[hρ _ _ hj],rfl⟩) (fun b id j _ hk hj=>⟨by unfold qbh;rw[hk];simp only[hσ _ _ hj],fun _ h=>h⟩) _ _ _ h
 obtain⟨sh,x⟩:=a
 cases sh
 case tup=>exact h.elim
 all_goals exact this
theorem qbA.enter {ρ σ:Nat→Option Nat} (hρ:∀id j,ρ id=some j→qbo id ts 0=some j) (hσ:∀id j,σ id=some j→qbo id bs 0=some j) {a:AV} {o:Obj} (h:qbA w K a.sh a.v o) :
  qbA w (qbh ts bs K) (a.ren ρ σ).sh (a.ren ρ σ).v o :=
 qbA.ren (w':=w) (K':=qbh ts bs K) (ρ:=ρ) (σ:=σ) (fun b o _ hs=>⟨(qnm _ _ _ _ _).2 hs,rfl⟩) (Nat.le_refl _) (fun b id u j _ hk hj=>⟨by unfold qbh;rw[hk];simp only[hρ _ _ hj],rfl⟩) (fun b id j _ hk hj=>⟨by unfold qbh;rw[hk];simp only[hσ _ _ hj],fun _ h=>h⟩) h
theorem qs4 {ρ σ:Nat→Option Nat} {h:q9}:∀(bs:List Nat) (k i id:Nat) (c:AV),bs[i]?=some id→(∀j,j<bs.length→∃x y,bs[j]?=some x∧look x h=some y)→look id h=some c→look (k+i) (qjG h ρ σ bs k)=some (c.ren ρ σ)
 |[],_,_,_,_,hi,_,_=>by simp at hi
 |x::bs,k,i,id,c,hi,hall,hc=>by
  obtain⟨x',y,hx,hy⟩:=hall 0 (by simp)
  simp at hx
  subst hx
  simp only[qjG,hy,List.singleton_append,look]
  cases i with
  |zero =>
   simp at hi
   subst hi
   rw[hy] at hc
   cases hc
   simp
  |succ i =>
   have h1:(k+(i+1)==k)=false:=by simp
   have h2:Nat.blt (k+(i+1)) k=false:=by
    cases hb:Nat.blt (k+(i+1)) k
    ·rfl
    ·rw[Nat.blt_eq] at hb;omega
   rw[h1,h2]
   simp only[Bool.false_eq_true,if_false]
   have:=qs4 (ρ:=ρ) (σ:=σ) bs (k+1) i id c (by simpa using hi) (fun j hj=>by obtain⟨x,y,e1,e2⟩:=hall (j+1) (by simp;omega);exact⟨x,y,by simpa using e1,e2⟩) hc
   rw[show k+(i+1)=k+1+i by omega]
   exact this
theorem qAB:∀(l:List Nat) (i j x:Nat),qwj l=true→l[i]?=some x→l[j]?=some x→i=j
 |[],i,_,_,_,h,_=>by simp at h
 |y::l,i,j,x,hn,hi,hj=>by
  simp only[qwj,Bool.and_eq_true,Bool.not_eq_true'] at hn
  cases i with
  |zero =>
   cases j with
   |zero=>rfl
   |succ j =>
    simp at hi
    subst hi
    have:=qeN (l:=l) (i:=j) (by simpa using hj)
    rw[hn.1] at this
    cases this
  |succ i =>
   cases j with
   |zero =>
    simp at hj
    subst hj
    have:=qeN (l:=l) (i:=i) (by simpa using hi)
    rw[hn.1] at this
    cases this
   |succ j =>
    have:=qAB l i j x hn.2 (by simpa using hi) (by simpa using hj)
    omega
theorem qdk.enter {h:q9} (hh:qdk w K h) (hbs:∀j,j<bs.length→∃x y,bs[j]?=some x∧look x h=some y) :
  qdk w (qbh ts bs K) (qjG h (fun id=>qbo id ts 0) (fun id=>qbo id bs 0) bs 0) where
 cells:=fun b j hb hk=>by
  unfold qbh at hk
  cases e:K b with
  |old=>rw[e] at hk;cases hk
  |far u=>rw[e] at hk;cases hk
  |row id u=>rw[e] at hk;simp only at hk;split at hk<;>cases hk
  |box id =>
   rw[e] at hk
   simp only at hk
   split at hk
   ·rename_i j' hj
    cases hk
    obtain⟨i,e1,e2⟩:=qfh _ _ _ hj
    obtain⟨av,o,l1,l2,l3⟩:=hh.cells b id hb e
    refine⟨_,o,?_,l2,l3.enter (ts:=ts) (bs:=bs) (fun _ _ h=>h) (fun _ _ h=>h)⟩
    have:=qs4 (ρ:=fun id=>qbo id ts 0) (σ:=fun id=>qbo id bs 0) bs 0 i id av e2 hbs l1
    rw[e1]
    exact this
   ·cases hk
 uniq:=fun b b' j hb hb' hk hk'=>by
  have key:∀x,qbh ts bs K x=.box j→∃id,K x=.box id∧bs[j]?=some id:=fun x hx=>by
   unfold qbh at hx
   cases e:K x with
   |old=>rw[e] at hx;cases hx
   |far u=>rw[e] at hx;cases hx
   |row id u=>rw[e] at hx;simp only at hx;split at hx<;>cases hx
   |box id =>
    rw[e] at hx
    simp only at hx
    split at hx
    ·rename_i j' hj
     cases hx
     obtain⟨i,e1,e2⟩:=qfh _ _ _ hj
     exact⟨id,rfl,by rw[e1,Nat.zero_add];exact e2⟩
    ·cases hx
  obtain⟨id,h1,h2⟩:=key b hk
  obtain⟨id',h3,h4⟩:=key b' hk'
  rw[h2] at h4
  cases h4
  exact hh.uniq b b' id hb hb' h1 h3
theorem qHD (g:Ext w (qbh ts bs K) w' K') (b o:Nat) (hb:b<w.heap.size) (hs:qcY K b o):qcY (qck N ts bs w K K') b o:=by
 have h1:=(g.stab b o hb ((qnm ts bs K b o).2 hs)).1
 unfold qcY at h1 hs ⊢
 unfold qck
 rw[if_pos hb]
 cases e:K b with
 |old=>trivial
 |far u=>rw[e] at hs;exact hs
 |box id=>rw[e] at hs;exact hs.elim
 |row id u =>
  rw[e] at hs
  simp only
  split
  ·exact(qlx _ _ _ _).2 h1
  ·exact hs
theorem qfZ (g:Ext w (qbh ts bs K) w' K'):Ext w K w' (qck N ts bs w K K') where
 os:=g.os
 tape:=g.tape
 output:=g.output
 size:=g.size
 fix:=fun b hb hf=>by
  obtain⟨h1,h2⟩:=g.fix b hb (by rw[qmb hf];exact hf)
  refine⟨?_,h2⟩
  unfold qck
  simp only[hb,if_true]
  cases e:K b with
  |old=>rfl
  |far u=>rfl
  |box id=>exact absurd hf (by rw[e];exact Bool.false_ne_true)
  |row id u=>exact absurd hf (by rw[e];exact Bool.false_ne_true)
 stab:=fun b o hb hs=>⟨qHD g b o hb hs,(g.stab b o hb ((qnm ts bs K b o).2 hs)).2⟩
 box:=fun b id hb hk=>by unfold qck;simp only[hb,if_true,hk]
 bsz:=fun b id n hb hk hn=>by
  cases hi:qbo id bs 0 with
  |some j=>exact g.bsz b j n hb (by unfold qbh;simp only[hk,hi]) hn
  |none =>
   obtain⟨_,h2⟩:=g.fix b hb (by unfold qbh;simp only[hk,hi];rfl)
   obtain⟨cs,T,h3,h4⟩:=hn
   exact⟨cs,T,h2.trans h3,h4⟩
theorem RV.back (g:Ext w (qbh ts bs K) w' K') {a:AV} {v:Value} (h:RV w K a v):RV w' (qck N ts bs w K K') (a.ren (qcN ts) some) v:=by
 refine RV.ren (qfZ g).stab g.size (fun b id u j hb hk hj=>?_) (fun b id j hb hk hj=>by cases hj;exact⟨(qfZ g).box b id hb hk,fun n hn=>(qfZ (N:=N) g).bsz b id n hb hk hn⟩) h
 unfold qcN at hj
 split at hj
 ·cases hj
 ·rename_i hn
  cases hj
  have hfar:qbh ts bs K b=.far u:=by
   unfold qbh
   rw[hk]
   simp only
   cases hi:qbo id ts 0 with
   |none=>rfl
   |some j=>obtain⟨i,_,e⟩:=qfh _ _ _ hi;exact(hn (qeN e)).elim
  obtain⟨h1,h2⟩:=g.fix b hb (by rw[hfar];rfl)
  refine⟨?_,h2⟩
  unfold qck
  rw[if_pos hb,hk]
  simp only
  rw[if_neg hn]
theorem RS.back (g:Ext w (qbh ts bs K) w' K') {a:AV} {cs:List Value} (h:RS w K a.sh a.v cs):RS w' (qck N ts bs w K K') (a.ren (qcN ts) some).sh (a.ren (qcN ts) some).v cs:=by
 have:=RS.ren (w':=w') (K':=qck N ts bs w K K') (ρ:=qcN ts) (σ:=some) (qfZ g).stab g.size (fun b id u j hb hk hj=>by
  unfold qcN at hj
  split at hj
  ·cases hj
  ·rename_i hn
   cases hj
   have hfar:qbh ts bs K b=.far u:=by
    unfold qbh
    rw[hk]
    simp only
    cases hi:qbo id ts 0 with
    |none=>rfl
    |some j=>obtain⟨i,_,e⟩:=qfh _ _ _ hi;exact(hn (qeN e)).elim
   obtain⟨h1,h2⟩:=g.fix b hb (by rw[hfar];rfl)
   refine⟨?_,h2⟩
   unfold qck
   rw[if_pos hb,hk]
   simp only
   rw[if_neg hn]) (fun b id j hb hk hj=>by cases hj;exact⟨(qfZ g).box b id hb hk,fun n hn=>(qfZ (N:=N) g).bsz b id n hb hk hn⟩) _ _ _ h
 obtain⟨sh,x⟩:=a
 cases sh
 case tup=>exact h.elim
 all_goals exact this
theorem qbA.back (g:Ext w (qbh ts bs K) w' K') {a:AV} {o:Obj} (h:qbA w K a.sh a.v o):qbA w' (qck N ts bs w K K') (a.ren (qcN ts) some).sh (a.ren (qcN ts) some).v o :=
 qbA.ren (w':=w') (K':=qck N ts bs w K K') (ρ:=qcN ts) (σ:=some) (qfZ g).stab g.size (fun b id u j hb hk hj=>by
  unfold qcN at hj
  split at hj
  ·cases hj
  ·rename_i hn
   cases hj
   have hfar:qbh ts bs K b=.far u:=by
    unfold qbh
    rw[hk]
    simp only
    cases hi:qbo id ts 0 with
    |none=>rfl
    |some j=>obtain⟨i,_,e⟩:=qfh _ _ _ hi;exact(hn (qeN e)).elim
   obtain⟨h1,h2⟩:=g.fix b hb (by rw[hfar];rfl)
   refine⟨?_,h2⟩
   unfold qck
   rw[if_pos hb,hk]
   simp only
   rw[if_neg hn]) (fun b id j hb hk hj=>by cases hj;exact⟨(qfZ g).box b id hb hk,fun n hn=>(qfZ (N:=N) g).bsz b id n hb hk hn⟩) h
theorem qnc (g:Ext w (qbh ts bs K) w' K') (b:Nat):(qck N ts bs w K K' b=qbT (qbv N ts) (qbv N bs) (K' b))∨(b<w.heap.size∧(K' b).fixed=true∧∀o,qcY K' b o→qcY (qck N ts bs w K K') b o):=by
 unfold qck
 by_cases hb:b<w.heap.size
 ·rw[if_pos hb]
  cases e:K b with
  |old =>
   obtain⟨h1,_⟩:=g.fix b hb (by rw[qmb (by rw[e];rfl),e];rfl)
   rw[qmb (by rw[e];rfl),e] at h1
   exact .inl (by rw[h1];rfl)
  |far u =>
   obtain⟨h1,_⟩:=g.fix b hb (by rw[qmb (by rw[e];rfl),e];rfl)
   rw[qmb (by rw[e];rfl),e] at h1
   exact .inl (by rw[h1];rfl)
  |box id =>
   cases hi:qbo id bs 0 with
   |none =>
    have hf:qbh ts bs K b=.far 0:=by unfold qbh;rw[e];simp only[hi]
    obtain⟨h1,_⟩:=g.fix b hb (by rw[hf];rfl)
    rw[hf] at h1
    refine .inr ⟨hb,by rw[h1];rfl,fun o hs=>?_⟩
    unfold qcY at hs
    rw[h1] at hs
    exact absurd hs (Nat.not_lt_zero o)
   |some j =>
    have hf:qbh ts bs K b=.box j:=by unfold qbh;rw[e];simp only[hi]
    have h1:=g.box b j hb hf
    obtain⟨i,e1,e2⟩:=qfh _ _ _ hi
    refine .inl ?_
    rw[h1]
    simp only[qbT,qbv,e1,Nat.zero_add,e2]
  |row id u =>
   by_cases hc:ts.contains id=true
   ·exact .inl (by simp only[hc,if_true])
   ·have hf:qbh ts bs K b=.far u:=by
     unfold qbh
     rw[e]
     simp only
     cases hi:qbo id ts 0 with
     |none=>rfl
     |some j=>obtain⟨i,_,e⟩:=qfh _ _ _ hi;exact(hc (qeN e)).elim
    obtain⟨h1,_⟩:=g.fix b hb (by rw[hf];rfl)
    rw[hf] at h1
    refine .inr ⟨hb,by rw[h1];rfl,fun o hs=>?_⟩
    unfold qcY at hs ⊢
    rw[h1] at hs
    have:(fun b=>if b<w.heap.size then(match K b with
     | .old=>.old
     | .far u=>.far u
     | .box id=>.box id
     | .row id u=>if ts.contains id then qbT (qbv N ts) (qbv N bs) (K' b) else .row id u)
     else qbT (qbv N ts) (qbv N bs) (K' b)) b=Kind.row id u:=by
     simp only[hb,if_true,e,hc]
     rfl
    rw[this]
    exact hs
 ·rw[if_neg hb]
  exact .inl rfl
theorem quQ (g:Ext w (qbh ts bs K) w' K') (b o:Nat) (hs:qcY K' b o):qcY (qck N ts bs w K K') b o:=by
 rcases qnc (N:=N) g b with h |⟨_,_,h⟩
 ·unfold qcY at hs ⊢
  rw[h]
  exact(qlx _ _ _ _).2 hs
 ·exact h o hs
theorem RV.leave (g:Ext w (qbh ts bs K) w' K') {a:AV} {v:Value} (h:RV w' K' a v):RV w' (qck N ts bs w K K') (a.ren (qbv N ts) (qbv N bs)) v:=by
 refine RV.ren (w':=w') (fun b o _ hs=>⟨quQ g b o hs,rfl⟩) (Nat.le_refl _) (fun b id u j _ hk hj=>⟨?_,rfl⟩) (fun b id j _ hk hj=>⟨?_,fun _ h=>h⟩) h
 ·rcases qnc (N:=N) g b with h |⟨_,h,_⟩
  ·rw[h,hk];simp only[qbT,hj]
  ·rw[hk] at h;cases h
 ·rcases qnc (N:=N) g b with h |⟨_,h,_⟩
  ·rw[h,hk];simp only[qbT,hj]
  ·rw[hk] at h;cases h
theorem RS.leave (g:Ext w (qbh ts bs K) w' K') {a:AV} {cs:List Value} (h:RS w' K' a.sh a.v cs):RS w' (qck N ts bs w K K') (a.ren (qbv N ts) (qbv N bs)).sh (a.ren (qbv N ts) (qbv N bs)).v cs:=by
 have:=RS.ren (w':=w') (K':=qck N ts bs w K K') (ρ:=qbv N ts) (σ:=qbv N bs) (fun b o _ hs=>⟨quQ g b o hs,rfl⟩) (Nat.le_refl _) (fun b id u j _ hk hj=>⟨(by
   rcases qnc (N:=N) g b with h |⟨_,h,_⟩
   ·rw[h,hk];simp only[qbT,hj]
   ·rw[hk] at h;cases h),rfl⟩) (fun b id j _ hk hj=>⟨(by
   rcases qnc (N:=N) g b with h |⟨_,h,_⟩
   ·rw[h,hk];simp only[qbT,hj]
   ·rw[hk] at h;cases h),fun _ h=>h⟩) _ _ _ h
 obtain⟨sh,x⟩:=a
 cases sh
 case tup=>exact h.elim
 all_goals exact this
theorem qbA.leave (g:Ext w (qbh ts bs K) w' K') {a:AV} {o:Obj} (h:qbA w' K' a.sh a.v o):qbA w' (qck N ts bs w K K') (a.ren (qbv N ts) (qbv N bs)).sh (a.ren (qbv N ts) (qbv N bs)).v o :=
 qbA.ren (w':=w') (K':=qck N ts bs w K K') (ρ:=qbv N ts) (σ:=qbv N bs) (fun b o _ hs=>⟨quQ g b o hs,rfl⟩) (Nat.le_refl _) (fun b id u j _ hk hj=>⟨(by
   rcases qnc (N:=N) g b with h |⟨_,h,_⟩
   ·rw[h,hk];simp only[qbT,hj]
   ·rw[hk] at h;cases h),rfl⟩) (fun b id j _ hk hj=>⟨(by
   rcases qnc (N:=N) g b with h |⟨_,h,_⟩
   ·rw[h,hk];simp only[qbT,hj]
   ·rw[hk] at h;cases h),fun _ h=>h⟩) h
theorem qpv {h0:q9}:∀(h:q9),qnE N bs h0 h=true→∀x∈h,bs[x.1]?=none→look (N+x.1) h0=none
 |[],_,_,hx,_=>by cases hx
 |(k,u)::l,hf,x,hx,hn=>by
  simp only[qnE,Bool.and_eq_true] at hf
  rcases List.mem_cons.1 hx with rfl |hx
  ·rw[hn] at hf
   simpa using hf.1
  ·exact qpv l hf.2 x hx hn
theorem qpn {α:Type} {j:Nat} {c:α}:∀(h:List (Nat×α)),look j h=some c→(j,c)∈h
 |[],h=>by cases h
 |(k,u)::l,h=>by
  simp only[look] at h
  split at h
  ·rename_i e
   simp only[beq_iff_eq] at e
   cases h
   subst e
   exact List.mem_cons_self
  ·split at h
   ·cases h
   ·exact List.mem_cons_of_mem _ (qpn l h)
theorem qup {ρ σ:Nat→Option Nat} {h0:q9} {id:Nat}:∀(h:q9),(∀x∈h,σ x.1≠some id)→look id (qhS ρ σ h0 h)=look id h0
 |[],_=>rfl
 |(k,u)::l,hall=>by
  have hk:=hall (k,u) List.mem_cons_self
  have ih:=qup (ρ:=ρ) (h0:=h0) l (fun x hx=>hall x (List.mem_cons_of_mem _ hx))
  simp only[qhS]
  split
  ·rename_i id' e
   rw[qbX,if_neg (fun e'=>hk (by rw[e,e']))]
   exact ih
  ·exact ih
theorem qut {ρ σ:Nat→Option Nat} {h0:q9} {id j:Nat} {c:AV} (hj:σ j=some id):∀(h:q9),look j h=some c→(∀x∈h,σ x.1=some id→x.1=j)→look id (qhS ρ σ h0 h)=some (c.ren ρ σ)
 |[],h,_=>by cases h
 |(k,u)::l,h,hall=>by
  simp only[look] at h
  simp only[qhS]
  split at h
  ·rename_i e
   simp only[beq_iff_eq] at e
   cases h
   subst e
   rw[hj]
   simp only
   rw[qbX,if_pos rfl]
  ·rename_i hne
   simp only[beq_iff_eq] at hne
   split at h
   ·cases h
   ·have ih:=qut (ρ:=ρ) (h0:=h0) hj l h (fun x hx=>hall x (List.mem_cons_of_mem _ hx))
    split
    ·rename_i id' e
     rw[qbX,if_neg (fun e'=>hne ((hall (k,u) List.mem_cons_self (by rw[e,e'])).symm))]
     exact ih
    ·exact ih
theorem qdk.leave {h0 h':q9} (hh:qdk w K h0) (hnd:qwj bs=true) (hbs:bs.all (qim h0)=true) (g:Ext w (qbh ts bs K) w' K') (hh':qdk w' K' h') (hf:qnE N bs h0 h'=true) :
  qdk w' (qck N ts bs w K K') (qhS (qbv N ts) (qbv N bs) (qde (·.ren (qcN ts) some) h0) h'):=by
 have hin:∀(i x:Nat),bs[i]?=some x→(look x h0).isSome=true:=fun i x hi=>List.all_eq_true.1 hbs x (List.mem_of_getElem? hi)
 have inj:∀(j j' id:Nat),(∃c,(j,c)∈h')→(∃c,(j',c)∈h')→qbv N bs j=some id→qbv N bs j'=some id→j=j':=by
  intro j j' id ⟨c,hc⟩ ⟨c',hc'⟩ e1 e2
  unfold qbv at e1 e2
  cases h1:bs[j]? with
  |some x =>
   rw[h1] at e1
   cases e1
   cases h2:bs[j']? with
   |some y =>
    rw[h2] at e2
    cases e2
    exact qAB bs j j' id hnd h1 h2
   |none =>
    rw[h2] at e2
    cases e2
    have:=qpv h' hf _ hc' h2
    have h3:=hin _ _ h1
    simp only at this
    rw[this] at h3
    cases h3
  |none =>
   rw[h1] at e1
   cases e1
   cases h2:bs[j']? with
   |some y =>
    rw[h2] at e2
    cases e2
    have:=qpv h' hf _ hc h1
    have h3:=hin _ _ h2
    simp only at this
    rw[this] at h3
    cases h3
   |none =>
    rw[h2] at e2
    simp only[Option.some.injEq] at e2
    omega
 have origin:∀(b id:Nat),b<w'.heap.size→qck N ts bs w K K' b=.box id→(∃j,K' b=.box j∧qbv N bs j=some id)∨(b<w.heap.size∧K b=.box id∧qbo id bs 0=none):=by
  intro b id hb hk
  by_cases hlt:b<w.heap.size
  ·cases e:K b with
   |box id' =>
    have:qck N ts bs w K K' b=.box id':=by unfold qck;simp only[hlt,if_true,e]
    rw[this] at hk
    cases hk
    cases hi:qbo id bs 0 with
    |none=>exact .inr ⟨hlt,rfl,rfl⟩
    |some j =>
     have hfar:qbh ts bs K b=.box j:=by unfold qbh;simp only[e,hi]
     have h1:=g.box b j hlt hfar
     obtain⟨i,e1,e2⟩:=qfh _ _ _ hi
     exact .inl ⟨j,h1,by simp only[qbv,e1,Nat.zero_add,e2]⟩
   |old =>
    have:qck N ts bs w K K' b=.old:=by unfold qck;simp only[hlt,if_true,e]
    rw[this] at hk
    cases hk
   |far u =>
    have:qck N ts bs w K K' b=.far u:=by unfold qck;simp only[hlt,if_true,e]
    rw[this] at hk
    cases hk
   |row id' u =>
    have:qck N ts bs w K K' b=if ts.contains id' then qbT (qbv N ts) (qbv N bs) (K' b) else .row id' u:=by unfold qck;simp only[hlt,if_true,e]
    rw[this] at hk
    split at hk
    ·cases e':K' b with
     |box j=>rw[e'] at hk;simp only[qbT] at hk;split at hk<;>cases hk;exact .inl ⟨j,rfl,by assumption⟩
     |old=>rw[e'] at hk;cases hk
     |far u=>rw[e'] at hk;cases hk
     |row j u=>rw[e'] at hk;simp only[qbT] at hk;split at hk<;>cases hk
    ·cases hk
  ·have:qck N ts bs w K K' b=qbT (qbv N ts) (qbv N bs) (K' b):=by unfold qck;simp only[hlt,if_false]
   rw[this] at hk
   cases e':K' b with
   |box j=>rw[e'] at hk;simp only[qbT] at hk;split at hk<;>cases hk;exact .inl ⟨j,rfl,by assumption⟩
   |old=>rw[e'] at hk;cases hk
   |far u=>rw[e'] at hk;cases hk
   |row j u=>rw[e'] at hk;simp only[qbT] at hk;split at hk<;>cases hk
 have notback:∀(b id:Nat),b<w.heap.size→K b=.box id→qbo id bs 0=none→∀x∈h',qbv N bs x.1≠some id:=by
  intro b id hb hk hi x hx e
  unfold qbv at e
  obtain⟨av,o,l1,_⟩:=hh.cells b id hb hk
  cases h1:bs[x.1]? with
  |some y =>
   rw[h1] at e
   cases e
   have:=qta bs 0 (qeN h1)
   rw[hi] at this
   cases this
  |none =>
   rw[h1] at e
   have e':N+x.1=id:=by simpa using e
   have:=qpv h' hf x hx h1
   rw[e',l1] at this
   cases this
 refine⟨fun b id hb hk=>?_,fun b b' id hb hb' hk hk'=>?_⟩
 ·rcases origin b id hb hk with⟨j,h1,h2⟩ |⟨h1,h2,h3⟩
  ·obtain⟨av,o,l1,l2,l3⟩:=hh'.cells b j hb h1
   refine⟨_,o,qut h2 h' l1 (fun x hx e=>inj x.1 j id ⟨x.2,hx⟩ ⟨av,qpn _ l1⟩ e h2),l2,qbA.leave g l3⟩
  ·obtain⟨av,o,l1,l2,l3⟩:=hh.cells b id h1 h2
   have hfar:qbh ts bs K b=.far 0:=by unfold qbh;simp only[h2,h3]
   obtain⟨_,f2⟩:=g.fix b h1 (by rw[hfar];rfl)
   refine⟨av.ren (qcN ts) some,o,?_,f2.trans l2,qbA.back g l3⟩
   rw[qup h' (notback b id h1 h2 h3),qfp,l1]
   rfl
 ·rcases origin b id hb hk with⟨j,h1,h2⟩ |⟨h1,h2,h3⟩
  ·rcases origin b' id hb' hk' with⟨j',h1',h2'⟩ |⟨h1',h2',h3'⟩
   ·obtain⟨av,_,l1,_⟩:=hh'.cells b j hb h1
    obtain⟨av',_,l1',_⟩:=hh'.cells b' j' hb' h1'
    have:=inj j j' id ⟨_,qpn _ l1⟩ ⟨_,qpn _ l1'⟩ h2 h2'
    subst this
    exact hh'.uniq b b' j hb hb' h1 h1'
   ·obtain⟨av,_,l1,_⟩:=hh'.cells b j hb h1
    exact(notback b' id h1' h2' h3' _ (qpn _ l1) h2).elim
  ·rcases origin b' id hb' hk' with⟨j',h1',h2'⟩ |⟨h1',h2',h3'⟩
   ·obtain⟨av,_,l1,_⟩:=hh'.cells b' j' hb' h1'
    exact(notback b id h1 h2 h3 _ (qpn _ l1) h2').elim
   ·exact hh.uniq b b' id h1 h1' h2 h2'
end
end Go.Av
end
