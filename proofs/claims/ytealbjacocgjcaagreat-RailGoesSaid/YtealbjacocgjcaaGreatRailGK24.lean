/- Texts of the proof, one behind the other. -/
import Derived.Test.YtealbjacocgjcaaGreatRailGK23
import Derived.ReadAgain
import Derived.ChangeStays
import Derived.JoinedCond
import Derived.WalkKit
import Derived.ProofKit
import Derived.OpenShut
section
namespace Go.Av
open Go Go.RowKit Go.ChangeShapes Go.WideShapes Go.ChangeAt
def Ty.fits (N:Nat):(t:Ty)→t.den→Prop
 | .unit,_=>True
 | .pair a b,x=>Ty.fits N a x.1∧Ty.fits N b x.2
 | .arr n e,x=>List.length x=n∧∀y∈(x:List e.den),Ty.fits N e y
 | .int k,n=>(Lit.int k n).wf=true
 | .bool,_=>True
 | .str,s=>List.length s≤N
 | .func,_=>True
 | .sl e,xs=>List.length xs≤N∧∀y∈(xs:List e.den),Ty.fits N e y
def Ty.data:Ty→Bool
 | .pair a b=>a.data&&b.data
 | .arr _ e=>e.data
 | .sl e=>e.data
 | .func=>false
 |_=>true
structure Small {H:Type} (M:DataW H→Prop) (N:Nat):Prop where
 str:∀b:List UInt8,M (.lit (.string b))→b.length≤maxLen→b.length≤N
 sl:∀e s:List (DataW H),M (.slice e s)→e.length≤maxLen→e.length≤N
 el:∀e s:List (DataW H),M (.slice e s)→∀d∈e,M d
 agg:∀l:List (DataW H),M (.agg l)→∀d∈l,M d
theorem small_all {H:Type}:Small (fun _:DataW H=>True) maxLen:=⟨fun _ _ h=>h,fun _ _ _ h=>h,fun _ _ _ _ _=>trivial,fun _ _ _ _=>trivial⟩
section
variable {H:Type} {enc:TypeId×Value→H} {P:Program} {w:World} {base:Nat} {sp:Nat→Bool} {held:Bool} {M:DataW H→Prop} {N:Nat}
theorem add_block (a:Addr) (n:Nat):(a.add n).block=a.block∧(a.add n).off=a.off+n:=by
 unfold Addr.add
 split
 ·rename_i h
  subst h
  exact⟨rfl,rfl⟩
 ·exact⟨rfl,rfl⟩
theorem cells_get {b:Nat} {a:Addr} {n:Nat} {cs:List Value} (h:w.cells? b a n=some cs):cs.length=n∧(0<n→a.spot=none)∧∀j v,cs[j]?=some v→w.cell? ⟨a.block,a.off+j,none⟩=some v:=by
 unfold World.cells? at h
 split at h
 ·have hl:cs.length=n:=by simpa using mapM_some_length h
  have key:∀j v,cs[j]?=some v→w.cell? (a.add j)=some v:=fun j v hj=>by
   have hlt:j<n:=by rw[←hl];exact(List.getElem?_eq_some_iff.1 hj).1
   have:=mapM_some_get h j j (by simp[hlt])
   rw[hj] at this
   exact this
  have hspot:0<n→a.spot=none:=fun hn=>by
   have:=key 0 cs[0] (List.getElem?_eq_getElem (by omega))
   simp only[Addr.add,if_true,World.cell?] at this
   split at this
   ·cases hs:a.spot with
    |none=>rfl
    |some s=>rw[hs] at this;simp at this
   ·cases this
  refine⟨hl,hspot,fun j v hj=>?_⟩
  have hlt:j<n:=by rw[←hl];exact(List.getElem?_eq_some_iff.1 hj).1
  have:=key j v hj
  have hs:=hspot (by omega)
  obtain⟨ab,ao,asp⟩:=a
  simp only at hs
  subst hs
  simp only[Addr.add] at this
  split at this
  ·rename_i h0
   subst h0
   exact this
  ·exact this
 ·cases h
theorem opened (K:Kids P (· < P.types.size)) (S:Small M N):∀(dp:Nat) (t:TypeId) (τ:Ty),tyOf P dp t=some τ→τ.data=true→t<P.types.size→∀(fuel:Nat) (cs:List Value) (x:DataW H×List MemPlace),
  DataW.trod enc P w base sp held fuel t cs=some x→M x.1→∃y:τ.den,RT w allOld τ y cs∧τ.fits N y:=by
 intro dp
 induction dp with
 |zero=>intro t τ h;cases h
 |succ dp ih =>
  intro t τ h hda ht fuel cs x hx hm
  simp only[tyOf] at h
  split at h
  ·rename_i k hu
   cases h
   obtain⟨n,rfl,rfl,hw⟩:=DataW.trod_int hu hx
   exact⟨n,rfl,hw⟩
  ·rename_i hu
   cases h
   obtain⟨b,rfl,rfl⟩:=DataW.trod_bool hu hx
   exact⟨b,rfl,trivial⟩
  ·rename_i hu
   cases h
   obtain⟨s,rfl,rfl,hs⟩:=DataW.trod_string hu hx
   exact⟨s.data.toList,rfl,S.str _ hm (by simpa using hs)⟩
  ·cases h;cases hda
  ·rename_i e hu
   obtain⟨τe,he,rfl⟩:=Option.map_eq_some_iff.1 h
   have hel:=K.slice ht hu
   rcases DataW.trod_slice hu hx with⟨rfl,rfl⟩ |⟨a,len,cap,elems,rest,n,rfl,rfl,rfl,_,hlc,hcm,hel',hget,_,_⟩
   ·exact⟨[],⟨none,0,0,rfl,rfl,Nat.le_refl _,fun _=>rfl,fun a ha=>by cases ha⟩,by simp[Ty.fits]⟩
   ·have key:∀k,k≤len→∃(ys:List τe.den) (cc:List Value),ys.length=k∧RL (RT w allOld τe) ys cc∧cc.length=k*P.cellsOf e∧(∀y∈ys,τe.fits N y)∧(0<cc.length→a.spot=none)∧∀j v,cc[j]?=some v→w.cell? ⟨a.block,a.off+j,none⟩=some v:=by
     intro k
     induction k with
     |zero=>intro _;exact⟨[],[],rfl,rfl,by simp,(fun y hy=>by cases hy),(fun h=>by simp at h),fun j v hj=>by simp at hj⟩
     |succ k ihk =>
      intro hk
      obtain⟨ys,cc,h1,h2,h3,h4,h6,h5⟩:=ihk (by omega)
      have hg:=hget k (by omega)
      rw[List.getElem?_eq_getElem (by omega)] at hg
      obtain⟨cs',hc,hy⟩:=Option.bind_eq_some_iff.1 hg
      obtain⟨hl,hspot,hcell⟩:=cells_get hc
      obtain⟨y,hr,hf⟩:=ih e τe he hda hel n cs' _ hy (S.el _ _ hm _ (List.mem_map_of_mem (List.getElem_mem _)))
      refine⟨ys++[y],cc++cs',by simp[h1],RL.append h2 ⟨cs',[],by simp,hr,rfl⟩,by simp[h3,hl,Nat.succ_mul],fun z hz=>?_,fun hpos=>?_,fun j v hj=>?_⟩
      ·rcases List.mem_append.1 hz with hz |hz
       ·exact h4 z hz
       ·simp at hz;subst hz;exact hf
      ·rcases Nat.eq_zero_or_pos k with rfl |hk0
       ·rw[Nat.zero_mul] at hspot
        have:(a.add 0)=a:=by simp[Addr.add]
        rw[this] at hspot
        refine hspot ?_
        simp only[List.length_append,hl,h3,Nat.zero_mul] at hpos
        omega
       ·refine h6 ?_
        rw[h3]
        simp only[List.length_append,hl,h3] at hpos
        rcases Nat.eq_zero_or_pos (P.cellsOf e) with hz |hz
        ·rw[hz] at hpos;simp at hpos
        ·exact Nat.mul_pos hk0 hz
      ·rcases Nat.lt_or_ge j cc.length with hjl |hjl
       ·rw[List.getElem?_append_left hjl] at hj
        exact h5 j v hj
       ·rw[List.getElem?_append_right hjl] at hj
        have g2:=hcell _ _ hj
        rw[(add_block _ _).1,(add_block _ _).2,show a.off+k*P.cellsOf e+(j-cc.length)=a.off+j by rw[h3] at hjl ⊢;omega] at g2
        exact g2
    obtain⟨ys,cc,h1,h2,_,h4,h6,h5⟩:=key len (Nat.le_refl _)
    refine⟨ys,⟨some a,len,cap,rfl,h1.symm,hlc,(fun e=>by cases e),fun a' ha=>?_⟩,?_,h4⟩
    ·cases ha
     exact⟨cc,h2,fun j v hj=>⟨h6 (Nat.lt_of_le_of_lt (Nat.zero_le _) (List.getElem?_eq_some_iff.1 hj).1),h5 j v hj,trivial⟩⟩
    ·rw[h1]
     have:=S.sl _ _ hm (by simp;omega)
     simpa [hel'] using this
  ·rename_i n e hu
   obtain⟨τe,he,rfl⟩:=Option.map_eq_some_iff.1 h
   obtain⟨hel,hsz⟩:=K.array ht hu
   obtain⟨xs,m,rfl,rfl,hl,hxl,hget⟩:=DataW.trod_array hu hx
   have key:∀k,k≤n→∃(ys:List τe.den),ys.length=k∧RL (RT w allOld τe) ys (cs.take (k*P.cellsOf e))∧(∀y∈ys,τe.fits N y):=by
    intro k
    induction k with
    |zero=>intro _;exact⟨[],rfl,by simp[RL],(fun y hy=>by cases hy)⟩
    |succ k ihk =>
     intro hk
     obtain⟨ys,h1,h2,h4⟩:=ihk (by omega)
     have hg:=hget k (by omega)
     rw[List.getElem?_eq_getElem (by omega)] at hg
     obtain⟨y,hr,hf⟩:=ih e τe he hda hel m _ _ hg (S.agg _ hm _ (List.mem_map_of_mem (List.getElem_mem _)))
     refine⟨ys++[y],by simp[h1],?_,fun z hz=>?_⟩
     ·rw[Nat.succ_mul,List.take_add]
      exact RL.append h2 ⟨_,[],by simp,hr,rfl⟩
     ·rcases List.mem_append.1 hz with hz |hz
      ·exact h4 z hz
      ·simp at hz;subst hz;exact hf
   obtain⟨ys,h1,h2,h4⟩:=key n (Nat.le_refl _)
   rw[List.take_of_length_le (by rw[hl,hsz];exact Nat.le_refl _)] at h2
   exact⟨ys,⟨h1,h2⟩,h1,h4⟩
  ·rename_i fs hu
   obtain⟨hty,hsz,hoff⟩:=K.struct ht hu
   obtain⟨xs,n,rfl,rfl,hl,hxl,hget⟩:=DataW.trod_struct hu hx
   have key:∀(l:List Field) (off:Nat) (τ:Ty),tyOf.fields (tyOf P dp) l=some τ→τ.data=true→(∀(j:Nat) f,l[j]?=some f→f.offset=off+((l.take j).map fun f=>P.cellsOf f.type).sum∧f.type<P.types.size∧∃y,DataW.trod enc P w base sp held n f.type ((cs.drop f.offset).take (P.cellsOf f.type))=some y∧M y.1) →
     ∃y:τ.den,RT w allOld τ y ((cs.drop off).take ((l.map fun f=>P.cellsOf f.type).sum))∧τ.fits N y:=by
    intro l
    induction l with
    |nil=>intro off τ h _ _;cases h;exact⟨(),by simp[RT],trivial⟩
    |cons f l ihl =>
     intro off τ h hda hf
     simp only[tyOf.fields] at h
     split at h
     ·rename_i a b ha hb
      cases h
      simp only[Ty.data,Bool.and_eq_true] at hda
      obtain⟨h0,hlt,y0,hy0,hm0⟩:=hf 0 f rfl
      simp at h0
      obtain⟨y,hr,hfit⟩:=ih f.type a ha hda.1 hlt n _ _ hy0 hm0
      obtain⟨z,hz,hzf⟩:=ihl (off+P.cellsOf f.type) b hb hda.2 (fun j g hg=>by
       obtain⟨q1,q2,q3⟩:=hf (j+1) g (by simpa using hg)
       refine⟨?_,q2,q3⟩
       rw[q1]
       simp only[List.take_succ_cons,List.map_cons,List.sum_cons]
       omega)
      refine⟨(y,z),⟨_,_,?_,hr,hz⟩,hfit,hzf⟩
      rw[h0,List.map_cons,List.sum_cons,List.take_add,List.drop_drop]
     ·cases h
   obtain⟨y,hr,hf⟩:=key fs.toList 0 τ h hda (fun j f hj=>by
    refine⟨by simpa using hoff j f hj,hty f (List.mem_of_getElem? hj),?_⟩
    have hj':fs[j]?=some f:=by rw[←hj];simp
    have hlt:j<xs.length:=by rw[hxl];exact(Array.getElem?_eq_some_iff.1 hj').1
    have:=hget j f hj'
    rw[List.getElem?_eq_getElem hlt] at this
    exact⟨_,this,S.agg _ hm _ (List.mem_map_of_mem (List.getElem_mem _))⟩)
   refine⟨y,?_,hf⟩
   rw[List.drop_zero,←hsz,←hl,List.take_length] at hr
   exact hr
  ·cases h
theorem opened_RV (K:Kids P (· < P.types.size)) (S:Small M N) {t:TypeId} {τ:Ty} (h:tyOf P tyDepth t=some τ) (hda:τ.data=true) (ht:t<P.types.size) {r:Reach} {b:Nat} {v:Value} (hval:Value.okWide P w r b t v) {d:DataW H} {ps:List MemPlace} (hd:DataW.Trod enc P w base sp held t v d ps) (hm:M d)
  (harr:∀n e,P.underlying t≠some (.array n e)):∃y:τ.den,RV w allOld ⟨.ty τ,y⟩ v∧τ.fits N y:=by
 obtain⟨fuel,hx⟩:=hd
 obtain⟨y,hr,hf⟩:=opened K S tyDepth t τ h hda ht fuel _ _ hx hm
 refine⟨y,⟨hr,?_⟩,hf⟩
 have h':=h
 simp only[tyDepth,tyOf] at h'
 split at h'
 ·rename_i k hu
  cases h'
  obtain⟨n,rfl⟩:=okWide_int hu hval
  exact⟨(fun e=>(by cases e)),(fun _ c e=>(by cases e))⟩
 ·rename_i hu
  cases h'
  obtain⟨n,rfl⟩:=okWide_bool hu hval
  exact⟨(fun e=>(by cases e)),(fun _ c e=>(by cases e))⟩
 ·rename_i hu
  cases h'
  obtain⟨n,rfl⟩:=okWide_string hu hval
  exact⟨(fun e=>(by cases e)),(fun _ c e=>(by cases e))⟩
 ·cases h';cases hda
 ·rename_i e hu
  obtain⟨τe,_,rfl⟩:=Option.map_eq_some_iff.1 h'
  obtain⟨a,l,c,rfl⟩:=okWide_slice hu hval
  exact⟨(fun e=>(by cases e)),(fun _ c e=>(by cases e))⟩
 ·rename_i n e hu
  exact(harr n e hu).elim
 ·rename_i fs hu
  obtain⟨cs,rfl,_⟩:=okWide_struct hu hval
  refine⟨fun _=>⟨cs,rfl⟩,fun e=>?_⟩
  have:∀(l:List Field) (f:TypeId→Option Ty) (τ:Ty),tyOf.fields f l=some τ→τ.agg=true:=by
   intro l f τ h
   cases l with
   |nil=>cases h;rfl
   |cons x l =>
    simp only[tyOf.fields] at h
    split at h
    ·cases h;rfl
    ·cases h
  rw[show Sh.agg (.ty τ)=true from this _ _ _ h'] at e
  cases e
 ·cases h'
def fitsAll (N:Nat):(ts:List Ty)→dens ts→Prop
 |[],_=>True
 |[t],x=>t.fits N x
 |t::_::_,x=>t.fits N x.1∧fitsAll N _ x.2
def argsOk (P:Program):List TypeId→List Ty→Bool
 |[],[]=>true
 |t::ts,τ::τs=>(match tyOf P tyDepth t with
  |some τ'=>decide (τ'=τ)&&τ.data
  |none=>false)&&(decide (t<P.types.size)&&((match P.underlying t with
  |some (.array _ _)=>false
  |_=>true)&&argsOk P ts τs))
 |_,_=>false
theorem opened_all (K:Kids P (· < P.types.size)) (S:Small M N) {r:Reach} {b:Nat}:∀(ts:List TypeId) (τs:List Ty) (vs:List Value) (ds:List (DataW H)) (ps:List MemPlace),argsOk P ts τs=true →
  DataW.TrodAll enc P w base sp held ts vs ds ps→(∀(j:Nat) t v,ts[j]?=some t→vs[j]?=some v→Value.okWide P w r b t v)→(∀d∈ds,M d) →
  ∃x:dens τs,RVs w allOld (avs τs x) vs∧fitsAll N τs x
 |[],[],[],[],_,_,_,_,_=>⟨(),trivial,trivial⟩
 |t::ts,τ::τs,v::vs,d::ds,ps,ha,⟨p,q,h1,h2,_⟩,hval,hm=>by
  simp only[argsOk,Bool.and_eq_true] at ha
  obtain⟨a1,a2,a3,a4⟩:=ha
  have hτ:tyOf P tyDepth t=some τ∧τ.data=true:=by
   split at a1
   ·rename_i τ' e
    simp only[Bool.and_eq_true] at a1
    exact⟨by rw[e,of_decide_eq_true a1.1],a1.2⟩
   ·cases a1
  obtain⟨y,hr,hf⟩:=opened_RV K S hτ.1 hτ.2 (of_decide_eq_true a2) (hval 0 t v rfl rfl) h1 (hm d (by simp)) (fun n e he=>by rw[he] at a3;cases a3)
  obtain⟨x,hx,hxf⟩:=opened_all K S ts τs vs ds q a4 h2 (fun j t v hj hv=>hval (j+1) t v (by simpa using hj) (by simpa using hv)) (fun d hd=>hm d (by simp[hd]))
  cases τs with
  |nil =>
   cases vs with
   |nil=>exact⟨y,⟨hr,trivial⟩,hf⟩
   |cons v' vs'=>exact hx.elim
  |cons τ' τs'=>exact⟨(y,x),⟨hr,hx⟩,hf,hxf⟩
 |[],_::_,_,_,_,h,_,_,_=>by cases h
 |_::_,[],_,_,_,h,_,_,_=>by cases h
 |_::_,_::_,[],_,_,_,h,_,_=>h.elim
 |_::_,_::_,_::_,[],_,_,h,_,_=>h.elim
 |[],[],_::_,_,_,_,h,_,_=>h.elim
 |[],[],[],_::_,_,_,h,_,_=>h.elim
theorem trodAll_len:∀{ts:List TypeId} {vs:List Value} {ds:List (DataW H)} {ps:List MemPlace},DataW.TrodAll enc P w base sp held ts vs ds ps→ds.length=ts.length
 |[],[],[],_,_=>rfl
 |_::_,_::_,_::_,_,⟨_,_,_,h2,_⟩=>by simp[trodAll_len h2]
 |[],[],_::_,_,h=>h.elim
 |[],_::_,_,_,h=>h.elim
 |_::_,[],_,_,h=>h.elim
 |_::_,_::_,[],_,h=>h.elim
theorem allLt {n:Nat} {l:List TypeId} (h:(l.all fun t=>decide (t<n))=true):∀t∈l,t<n:=fun t ht=>of_decide_eq_true (List.all_eq_true.1 h t ht)
theorem trodAll_carry {w':World}:∀(ts:List TypeId) (vs:List Value) (ds:List (DataW H)) (ps:List MemPlace),DataW.TrodAll enc P w base sp held ts vs ds ps→(∀p∈ps,w.sameAt w' p)→DataW.TrodAll enc P w' base sp held ts vs ds ps
 |[],[],[],_,h,_=>h
 |_::ts,_::vs,_::ds,_,⟨p,q,⟨n,hn⟩,h2,e⟩,hs=>⟨p,q,⟨n,DataW.trod_carry n _ _ _ hn (fun x hx=>hs x (by rw[e];exact List.mem_append_left _ hx))⟩,trodAll_carry ts vs ds q h2 (fun x hx=>hs x (by rw[e];exact List.mem_append_right _ hx)),e⟩
 |[],[],_::_,_,h,_=>h.elim
 |[],_::_,_,_,h,_=>h.elim
 |_::_,[],_,_,h,_=>h.elim
 |_::_,_::_,[],_,h,_=>h.elim
theorem grown_same {w w':World} (h:Grew w w') (p:MemPlace) (hp:p.block<w.heap.size):w.sameAt w' p:=by
 obtain⟨⟨_,_,hk⟩,_,_⟩:=h
 have:=hk p.block hp
 cases p with
 |cell b off =>
  simp only[MemPlace.block] at this hp
  simp only[World.sameAt,World.cell?]
  split at this
  ·rename_i c t fr c' t' fr' e1 e2
   rw[e1,e2]
   obtain⟨_,_,_,h4⟩:=this
   simp[h4 off (fun f=>f)]
  ·rename_i e1 e2
   rw[e1,e2]
  ·rw[this]
 |map b =>
  simp only[MemPlace.block] at this hp
  simp only[World.sameAt]
  split at this
  ·rename_i c t fr c' t' fr' e1 e2
   rw[e1,e2]
   obtain⟨h1,h2,h3,h4⟩:=this
   have:c'=c:=by
    apply Array.ext_getElem?
    exact fun j=>h4 j (fun f=>f)
   rw[this,h1,h2]
  ·rename_i e1 e2
   rw[e1,e2]
   rcases this with f |⟨h1,h2⟩
   ·exact f.elim
   ·rw[h1,h2]
  ·exact this
theorem post_kept {f:Func} {s:ChangeSpec} {apart fresh handsOn again:Bool} {W W':World} {args:Array Value} {v:Value} {ds gs:List (DataW H)} {before pa pv:List MemPlace}
  (hW:DataW.Whole enc P f.params.toList s.vars apart W args.toList ds gs before)
  (hres:∀(b:Nat) (sp:Nat→Bool) (hd:Bool),DataW.TrodAll enc P W' b sp hd f.resultTypes.toList (v.resultList f.resultTypes.size) (s.fn H (ds++gs)).results [])
  (hargs:∀sp:Nat→Bool,(∀p∈before,sp p.block=true)→DataW.TrodAll enc P W' 0 sp true f.params.toList args.toList (s.fn H (ds++gs)).args pa)
  (hvars:∀sp:Nat→Bool,(∀p∈before,sp p.block=true)→DataW.TrodVars enc P W' sp s.vars (s.fn H (ds++gs)).vars pv)
  (hps:before=pa++pv) (hk:W.keptBut W' (·∈before)) (hfz:∀a:Addr,a.block<W.heap.size→W'.frozen? a=W.frozen? a)
  (hok:∀(j:Nat) (t:TypeId) (r:Value),f.resultTypes[j]?=some t→(v.resultList f.resultTypes.size)[j]?=some r→Value.okWide P W' .any 0 t r) :
  s.post enc P f apart fresh handsOn again W args v W':=by
 have hlt:=hW.lt
 have hold:∀p∈before,(fun b=>decide (b<W.heap.size)) p.block=true:=fun p hp=>by simpa using hlt p hp
 refine⟨ds,gs,before,[],pa,pv,hW,hres _ _ _,hargs _ hold,hvars _ hold,World.keptBut_mono (fun p hp=>⟨hp,by rw[hps,List.mem_append] at hp;exact Or.inr hp⟩) hk,fun _=>?_⟩
 obtain⟨_,_,_,_,_,hz,hn⟩:=hW
 refine⟨hok,_,_,([]++pa)++pv,⟨[]++pa,pv,trodAll_append (hargs _ (fun _ _=>rfl)) (hres _ _ _),hvars _ (fun _ _=>rfl),rfl,fun b off hp=>?_,fun ha=>?_⟩,fun p hp _=>by rw[hps];simpa using hp⟩
 ·have hm:MemPlace.cell b off∈before:=by rw[hps];simpa using hp
  rw[hfz ⟨b,off,none⟩ (hlt _ hm)]
  exact hz b off hm
 ·have:=hn ha
  rw[hps] at this
  simpa using this
theorem qm3 (K:Kids P (· < P.types.size)) (hz:∀t e,t<P.types.size→P.underlying t=some (.slice e)→0<P.cellsOf e) {f:Func} {s:ChangeSpec} {apart:Bool} {W W':World} {args:Array Value} {ds gs:List (DataW H)} {before:List MemPlace} {t:TypeId}
  (hr:f.resultTypes=#[t]) (ht:P.underlying t=some .bool) (hts:∀t∈f.params.toList,t<P.types.size) (hv:s.vars=[])
  (hW:DataW.Whole enc P f.params.toList s.vars apart W args.toList ds gs before) (hg:Grew W W')
  (hres:(s.fn H (ds++gs)).results=[.lit (.bool true)]) (hargs:(s.fn H (ds++gs)).args=ds) (hvars:(s.fn H (ds++gs)).vars=[]) :
  s.post enc P f apart true false false W args (.bool true) W':=by
 have hW':=hW
 obtain⟨p,q,hA,hV,hpq,hfz,hnd⟩:=hW
 rw[hv] at hV
 obtain⟨rfl,rfl⟩:=trodVars_none hV
 refine post_kept (pa:=p) (pv:=[]) hW' (fun b sp hd=>?_) (fun sp hsp=>?_) (fun sp _=>?_) hpq (World.keptBut_mono (fun _ f=>f.elim) hg.1) hg.2.1 ?_
 ·rw[hres,hr]
  exact trodAll_cons_mk (shut_bool ht _) trodAll_mk0
 ·rw[hargs]
  refine DataW.TrodAll.respare K hz (fun t h=>hts t h) (trodAll_carry _ _ _ _ hA (fun x hx=>grown_same hg x ?_)) (fun x hx=>hsp x (by rw[hpq];simpa using hx))
  exact hW'.lt x (by rw[hpq];simpa using hx)
 ·rw[hvars,hv]
  exact rfl
 ·exact ok_one hr rfl (okWide_bool_mk ht _)
end
end Go.Av
end
