/- Texts of the proof, one behind the other. -/
import Derived.Test.YtealbjacocgjcaaGreatRailGK12
section
namespace Go.Av
open Go
theorem merge_RS {w:World} {K:Kinds} {b:Bool} (s:Sh) (x:s.den) (t:Sh) (y:t.den):∀(v:AV),Sh.merge b s x t y=some v →
  (∀cs,(b=true→RS w K s x cs)→(b=false→RS w K t y cs)→RS w K v.sh v.v cs)∧(b=true→s.agg=v.sh.agg)∧(b=false→t.agg=v.sh.agg):=by
 fun_induction Sh.merge b s x t y with
 |case1 =>
  intro v h
  cases h
  refine⟨fun cs h1 h2=>?_,fun _=>rfl,fun _=>rfl⟩
  cases b
  ·exact h2 rfl
  ·exact h1 rfl
 |case2 =>
  intro v h
  cases h
  refine⟨fun cs h1 h2=>?_,fun _=>rfl,fun _=>rfl⟩
  cases b
  ·exact(h2 rfl).1
  ·exact(h1 rfl).1
 |case4 _ _ _ _ e =>
  intro v h
  cases h
  obtain⟨rfl,rfl⟩:=e
  refine⟨fun cs h1 h2=>?_,fun _=>rfl,fun _=>rfl⟩
  cases b
  ·exact h2 rfl
  ·exact h1 rfl
 |case6 =>
  intro v h
  cases h
  refine⟨fun cs h1 h2=>?_,fun _=>rfl,fun _=>rfl⟩
  cases b
  ·exact h2 rfl
  ·exact h1 rfl
 |case9 =>
  rename_i e
  intro v h
  cases h
  refine⟨fun cs h1 h2=>?_,fun _=>?_,fun _=>rfl⟩
  ·cases b
   ·exact h2 rfl
   ·exact as_RT _ _ _ _ _ e (h1 rfl)
  ·exact as_agg _ _ _ _ e
 |case11 =>
  rename_i e
  intro v h
  cases h
  refine⟨fun cs h1 h2=>?_,fun _=>rfl,fun _=>?_⟩
  ·cases b
   ·exact as_RT _ _ _ _ _ e (h2 rfl)
   ·exact h1 rfl
  ·exact as_agg _ _ _ _ e
 |case13 p q p' q' x y u v' e1 e2 ih1 ih2 =>
  intro v h
  cases h
  refine⟨fun cs h1 h2=>?_,fun _=>(mkPair_agg _ _).symm,fun _=>(mkPair_agg _ _).symm⟩
  cases b
  ·obtain⟨c1,c2,rfl,r1,r2⟩:=h2 rfl
   exact mkPair_RS ((ih1 _ e2).1 c1 (fun e=>by cases e) (fun _=>r1)) ((ih2 _ e1).1 c2 (fun e=>by cases e) (fun _=>r2))
  ·obtain⟨c1,c2,rfl,r1,r2⟩:=h1 rfl
   exact mkPair_RS ((ih1 _ e2).1 c1 (fun _=>r1) (fun e=>by cases e)) ((ih2 _ e1).1 c2 (fun _=>r2) (fun e=>by cases e))
 |_=>intro v h;cases h
theorem as_solid:∀(s:Sh) (x:s.den) (t:Ty) (y:t.den),s.as x t=some y→AV.solid ⟨s,x⟩=true:=by
 intro s x t y h
 cases s with
 |tup s=>cases t<;>cases h
 |top=>cases t<;>cases h
 |tyc T s=>cases t<;>cases h
 |_=>rfl
theorem merge_solid {b:Bool} (s:Sh) (x:s.den) (t:Sh) (y:t.den):∀(v:AV),Sh.merge b s x t y=some v→AV.solid ⟨s,x⟩=true∧AV.solid ⟨t,y⟩=true:=by
 fun_cases Sh.merge b s x t y
 case case9=>rename_i e;exact fun v h=>⟨as_solid _ _ _ _ e,rfl⟩
 case case11=>rename_i e;exact fun v h=>⟨rfl,as_solid _ _ _ _ e⟩
 all_goals first|exact fun v h=>⟨rfl,rfl⟩ |exact fun v h=>(by cases h)
theorem merge_RV {w:World} {K:Kinds} {b:Bool} {x y v:AV} (h:AV.merge b x y=some v) {u:Value} (hr:RV w K (bif b then x else y) u):RV w K v u:=by
 unfold AV.merge at h
 split at h
 ·obtain⟨h1,h2⟩:=merge_solid _ _ _ _ _ h
  obtain⟨g1,g2,g3⟩:=merge_RS (w:=w) (K:=K) _ _ _ _ _ h
  cases b
  ·have:=RV.solid hr h2
   exact R1.toRV ⟨g1 _ (fun e=>by cases e) (fun _=>this.1),fun e=>this.2.1 ((g3 rfl).trans e),fun e=>this.2.2 ((g3 rfl).trans e)⟩
  ·have:=RV.solid hr h1
   exact R1.toRV ⟨g1 _ (fun _=>this.1) (fun e=>by cases e),fun e=>this.2.1 ((g2 rfl).trans e),fun e=>this.2.2 ((g2 rfl).trans e)⟩
 ·cases h
  exact RV_top _
def Same (W:List Nat) (s s':St):Prop:=s'.heap=s.heap∧∀t,W.contains t=false→look t s'.ents=look t s.ents
theorem Same.refl (W:List Nat) (s:St):Same W s s:=⟨rfl,fun _ _=>rfl⟩
theorem Same.trans {W:List Nat} {s s' s'':St} (h:Same W s s') (g:Same W s' s''):Same W s s'':=⟨g.1.trans h.1,fun t ht=>(g.2 t ht).trans (h.2 t ht)⟩
theorem Same.mono {W W':List Nat} {s s':St} (hW:∀t,W.contains t=true→W'.contains t=true) (h:Same W s s'):Same W' s s':=⟨h.1,fun t ht=>h.2 t (by
 cases e:W.contains t
 ·rfl
 ·rw[hW t e] at ht;cases ht)⟩
theorem Same.set {W:List Nat} {s:St} {d:Nat} (v:AV) (hd:W.contains d=true):Same W s (s.set d v):=⟨rfl,fun t ht=>by
 simp only[St.set,look_put]
 rw[if_neg]
 intro e
 subst e
 rw[hd] at ht
 cases ht⟩
theorem Same.setO {W:List Nat} {s:St} {d:Option Nat} (v:AV) (hd:∀t,d=some t→W.contains t=true):Same W s (s.setO d v):=by
 cases d with
 |none=>exact Same.refl _ _
 |some t=>exact Same.set v (hd t rfl)
theorem Same.next {W:List Nat} {s:St} (m:Nat):Same W s {s with next:=m}:=⟨rfl,fun _ _=>rfl⟩
def Impl (s1 s2:St):Prop:=∀(fr:Fr) (n:Nat) (K:Kinds) (a:Act) (w:World),Rel fr n K s1 a w→Rel fr n K s2 a w
theorem Impl.refl (s:St):Impl s s:=fun _ _ _ _ _ h=>h
theorem Impl.trans {s s' s'':St} (h:Impl s s') (g:Impl s' s''):Impl s s'':=fun _ _ _ _ _ hr=>g _ _ _ _ _ (h _ _ _ _ _ hr)
theorem look_mergeW {b:Bool} {s1 s2:St}:∀(W:List Nat) (e e':List (Nat×AV)),mergeW b s1 s2 W e=some e'→∀t,(W.contains t=false→look t e'=look t e) ∧
  (W.contains t=true→∃v,look t e'=some v∧AV.merge b (s1.get t) (s2.get t)=some v)
 |[],e,e',h,t=>by cases h;exact⟨fun _=>rfl,fun h=>by cases h⟩
 |d::W,e,e',h,t=>by
  simp only[mergeW] at h
  split at h
  ·rename_i v hv
   obtain⟨h1,h2⟩:=look_mergeW W _ _ h t
   refine⟨fun ht=>?_,fun ht=>?_⟩
   ·simp only[List.contains_cons,Bool.or_eq_false_iff,beq_eq_false_iff_ne,ne_eq] at ht
    rw[h1 ht.2,look_put,if_neg ht.1]
   ·cases hc:W.contains t
    ·simp only[List.contains_cons,hc,Bool.or_false,beq_iff_eq] at ht
     subst ht
     exact⟨v,by rw[h1 hc,look_put,if_pos rfl],hv⟩
    ·exact h2 hc
  ·cases h
theorem mergeSt_ok {W:List Nat} {s s1 s2 s':St} {b:Bool} (h:mergeSt W s b s1 s2=some s') (h1:Same W s s1) (h2:Same W s s2):Same W s s'∧Impl (bif b then s1 else s2) s':=by
 obtain⟨e,he,rfl⟩:=Option.map_eq_some_iff.1 h
 refine⟨⟨rfl,fun t ht=>((look_mergeW W _ _ he t).1 ht)⟩,fun fr n K a w hr=>?_⟩
 have hs:Same W s (bif b then s1 else s2):=by
  cases b
  ·exact h2
  ·exact h1
 exact{
  ext:=hr.ext
  size:=hr.size
  defers:=hr.defers
  ents:=fun t av ht=>by
   cases hc:W.contains t
   ·rw[(look_mergeW W _ _ he t).1 hc,←hs.2 t hc] at ht
    exact hr.ents t av ht
   ·obtain⟨v,hv,hm⟩:=(look_mergeW W _ _ he t).2 hc
    rw[hv] at ht
    cases ht
    refine merge_RV hm ?_
    have:=hr.get t
    cases b
    ·exact this
    ·exact this
  frame:=fun t ht hT=>by
   cases hc:W.contains t
   ·rw[(look_mergeW W _ _ he t).1 hc,←hs.2 t hc] at ht
    exact hr.frame t ht hT
   ·obtain⟨v,hv,_⟩:=(look_mergeW W _ _ he t).2 hc
    rw[hv] at ht
    cases ht
  heap:=fun b' id hb hk=>by
   have:=hr.heap b' id hb hk
   rw[hs.1] at this
   exact this
  uniq:=hr.uniq}
namespace Tree
def All (G:St→Prop):Tree→Prop
 | .leaf s=>G s
 | .ite b t e=>(b=true→t.All G)∧(b=false→e.All G)
 | .fail=>False
def Leaves (G:St→Prop):Tree→Prop
 | .leaf s=>G s
 | .ite _ t e=>t.Leaves G∧e.Leaves G
 | .fail=>True
theorem All.imp {G G':St→Prop} (h:∀s,G s→G' s):∀t:Tree,t.All G→t.All G'
 | .leaf s,hh=>h s hh
 | .ite _ t e,hh=>⟨fun hb=>All.imp h t (hh.1 hb),fun hb=>All.imp h e (hh.2 hb)⟩
 | .fail,hh=>hh
theorem Leaves.imp {G G':St→Prop} (h:∀s,G s→G' s):∀t:Tree,t.Leaves G→t.Leaves G'
 | .leaf s,hh=>h s hh
 | .ite _ t e,hh=>⟨Leaves.imp h t hh.1,Leaves.imp h e hh.2⟩
 | .fail,_=>trivial
theorem All.fold {Kc:St→Option R} {r:R}:∀t:Tree,t.fold Kc=some r→t.All fun s=>Kc s=some r
 | .leaf _,h=>h
 | .ite b t e,h=>by
  simp only[Tree.fold] at h
  exact⟨fun hb=>All.fold t (by rw[hb] at h;exact h),fun hb=>All.fold e (by rw[hb] at h;exact h)⟩
 | .fail,h=>by cases h
theorem All.bindO {f:St→Option Tree} {G:St→Prop}:∀(t t':Tree),t.bindO f=some t'→t'.All G→t.All fun s=>∃t1,f s=some t1∧t1.All G
 | .leaf s,t',h,g=>⟨t',h,g⟩
 | .ite b t e,t',h,g=>by
  simp only[Tree.bindO] at h
  split at h
  ·rename_i t1 h1
   split at h
   ·rename_i e1 h2
    cases h
    exact⟨fun hb=>All.bindO t t1 h1 (g.1 hb),fun hb=>All.bindO e e1 h2 (g.2 hb)⟩
   ·cases h
  ·cases h
 | .fail,t',h,g=>by cases h;exact g
theorem Leaves.bindO {f:St→Option Tree} {G G':St→Prop} (hf:∀s t,G s→f s=some t→t.Leaves G'):∀(t t':Tree),t.bindO f=some t'→t.Leaves G→t'.Leaves G'
 | .leaf s,t',h,g=>hf s t' g h
 | .ite b t e,t',h,g=>by
  simp only[Tree.bindO] at h
  split at h
  ·rename_i t1 h1
   split at h
   ·rename_i e1 h2
    cases h
    exact⟨Leaves.bindO hf t t1 h1 g.1,Leaves.bindO hf e e1 h2 g.2⟩
   ·cases h
  ·cases h
 | .fail,t',h,_=>by cases h;trivial
def Cl (G:St→Prop) (s:St):Prop:=∃s',Impl s s'∧G s'
def Met (c:Option Bool):Prop:=∀b,c=some b→b=true
theorem met_and {b:Bool} {c:Option Bool} (h:Met (andO b c)):b=true∧Met c:=by
 cases c with
 |none=>exact⟨h b rfl,fun _ e=>by cases e⟩
 |some d =>
  have:=h _ rfl
  simp only[Bool.and_eq_true] at this
  exact⟨this.1,fun _ e=>by cases e;exact this.2⟩
theorem met_ite {b:Bool} {c d:Option Bool} (h:Met (iteO b c d)):(b=true→Met c)∧(b=false→Met d):=by
 refine⟨fun hb=>?_,fun hb=>?_⟩
 ·subst hb
  cases c with
  |none=>exact fun _ e=>by cases e
  |some c=>cases d<;>exact fun _ e=>by cases e;exact h _ rfl
 ·subst hb
  cases d with
  |none=>exact fun _ e=>by cases e
  |some d=>cases c<;>exact fun _ e=>by cases e;exact h _ rfl
theorem merge_ok {W:List Nat} {s:St}:∀(t:Tree) (c:Option Bool) (s':St),t.merge W s=some (c,s')→t.Leaves (Same W s)→Same W s s'∧(Met c→t.All fun s1=>Impl s1 s'):=by
 intro t
 fun_induction Tree.merge W s t with
 |case1 s1=>intro c s' h hl;cases h;exact⟨hl,fun _=>Impl.refl _⟩
 |case2=>intro c s' h;cases h
 |case3 b t ih =>
  intro c s' h hl
  obtain⟨⟨c',s1⟩,h1,h2⟩:=Option.map_eq_some_iff.1 h
  simp only[Prod.mk.injEq] at h2
  obtain⟨rfl,rfl⟩:=h2
  obtain⟨g1,g2⟩:=ih _ _ h1 hl.1
  refine⟨g1,fun hc=>?_⟩
  obtain⟨hc1,hc2⟩:=met_and hc
  exact⟨fun _=>g2 hc2,fun hb=>by rw[hb] at hc1;cases hc1⟩
 |case4 b e _ ih =>
  intro c s' h hl
  obtain⟨⟨c',s1⟩,h1,h2⟩:=Option.map_eq_some_iff.1 h
  simp only[Prod.mk.injEq] at h2
  obtain⟨rfl,rfl⟩:=h2
  obtain⟨g1,g2⟩:=ih _ _ h1 hl.2
  refine⟨g1,fun hc=>?_⟩
  obtain⟨hc1,hc2⟩:=met_and hc
  exact⟨(fun hb=>by rw[hb] at hc1;cases hc1),fun _=>g2 hc2⟩
 |case5 b t e _ _ p hp q hq iht ihe =>
  intro c s' h hl
  obtain⟨s1,h1,h2⟩:=Option.map_eq_some_iff.1 h
  simp only[Prod.mk.injEq] at h2
  obtain⟨rfl,rfl⟩:=h2
  obtain⟨g1,g2⟩:=iht _ _ hp hl.1
  obtain⟨f1,f2⟩:=ihe _ _ hq hl.2
  obtain⟨m1,m2⟩:=mergeSt_ok h1 g1 f1
  refine⟨m1,fun hc=>⟨fun hb=>?_,fun hb=>?_⟩⟩
  ·have:=(met_ite hc).1 hb
   subst hb
   exact All.imp (fun _ hi=>hi.trans m2) _ (g2 this)
  ·have:=(met_ite hc).2 hb
   subst hb
   exact All.imp (fun _ hi=>hi.trans m2) _ (f2 this)
 |_=>intro c s' h;cases h
theorem All.join {W:List Nat} {s:St} {G:St→Prop} {t:Tree} (hl:t.Leaves (Same W s)) (h:(t.join W s).All G):t.All (Cl G):=by
 unfold Tree.join at h
 split at h
 ·rename_i s' hp
  obtain⟨_,h2⟩:=merge_ok t _ _ hp hl
  exact All.imp (fun s1 hi=>⟨_,hi,h⟩) _ (h2 (fun _ e=>by cases e))
 ·rename_i c s' hp
  obtain⟨_,h2⟩:=merge_ok t _ _ hp hl
  cases hc:c
  ·exact(h.2 hc).elim
  ·exact All.imp (fun s1 hi=>⟨_,hi,h.1 hc⟩) _ (h2 (fun _ e=>by cases e;exact hc))
 ·exact All.imp (fun s1 hi=>⟨_,Impl.refl _,hi⟩) _ h
theorem Leaves.join {W:List Nat} {s:St} {t:Tree} (hl:t.Leaves (Same W s)):(t.join W s).Leaves (Same W s):=by
 unfold Tree.join
 split
 ·rename_i s' hp
  exact(merge_ok t _ _ hp hl).1
 ·rename_i c s' hp
  exact⟨(merge_ok t _ _ hp hl).1,trivial⟩
 ·exact hl
end Tree
section
variable {C:Ctx} {n:Nat} {no:Lim} {ops:Array Oper}
theorem intOp_sure {op:BinOp} {k k':IntKind} {m1 m2:Int} {c:Bool} {v:AV} (h:intOp op k m1 k' m2=some (c,v)) (hs:(op=.shl∨op=.shr→0≤m2)∧(op=.quo∨op=.rem→m2≠0)):c=true:=by
 unfold intOp at h
 split at h
 ·cases h;have:=hs.1 (.inl rfl);simp;omega
 ·cases h;have:=hs.1 (.inr rfl);simp;omega
 ·split at h
  ·split at h<;>first|(cases h;rfl) |skip
   ·cases h;have:=hs.2 (.inl rfl);simp;omega
   ·cases h;have:=hs.2 (.inr rfl);simp;omega
   ·cases h
  ·cases h
theorem binAV_sure {P:Program} {eqs:List TypeId} {op:BinOp} {t:TypeId} {x y:AV} {c:Bool} {v:AV} (h:binAV P eqs op t x y=some (c,v))
  (hs:op=.sub∨op=.mul∨op=.and∨op=.or∨op=.xor∨op=.andNot∨op=.eql∨op=.neq∨op=.lss∨op=.leq∨op=.gtr∨op=.geq):c=true:=by
 unfold binAV at h
 split at h
 ·refine intOp_sure h ⟨fun e=>?_,fun e=>?_⟩<;>rcases e with rfl |rfl<;>simp at hs
 ·unfold strOp at h
  split at h<;>first|(cases h;rfl) |skip
  ·simp at hs
  ·cases h
 ·split at h
  ·obtain⟨b,_,e⟩:=Option.map_eq_some_iff.1 h
   cases e
   rfl
  ·obtain⟨b,_,e⟩:=Option.map_eq_some_iff.1 h
   cases e
   rfl
  ·cases h
theorem binAV_none {P:Program} {eqs:List TypeId} {op:BinOp} {t:TypeId} {x y:AV} {c:Bool} {v:AV} (h:(match op with
  | .eql=>(eqOp P eqs t x y).map fun b=>(true,AV.bool b)
  | .neq=>(eqOp P eqs t x y).map fun b=>(true,AV.bool !b)
  |_=>none)=some (c,v)) (hop:op≠.eql∧op≠.neq):False:=by
 split at h
 ·exact hop.1 rfl
 ·exact hop.2 rfl
 ·cases h
theorem binAV_left {P:Program} {eqs:List TypeId} {op:BinOp} {t:TypeId} {k:IntKind} {m:Int} {y:AV} {c:Bool} {v:AV} (h:binAV P eqs op t ⟨.ty (.int k),m⟩ y=some (c,v)) (hop:op≠.eql∧op≠.neq):∃k' m',intOp op k m k' m'=some (c,v):=by
 obtain⟨sy,vy⟩:=y
 cases sy with
 |ty τ=>cases τ with
  |int k'=>exact⟨k',vy,h⟩
  |_=>exact(binAV_none h hop).elim
 |_=>exact(binAV_none h hop).elim
theorem binAV_right {P:Program} {eqs:List TypeId} {op:BinOp} {t:TypeId} {k:IntKind} {m:Int} {x:AV} {c:Bool} {v:AV} (h:binAV P eqs op t x ⟨.ty (.int k),m⟩=some (c,v)) (hop:op≠.eql∧op≠.neq):∃k' m',intOp op k' m' k m=some (c,v):=by
 obtain⟨sx,vx⟩:=x
 cases sx with
 |ty τ=>cases τ with
  |int k'=>exact⟨k',vx,h⟩
  |_=>exact(binAV_none h hop).elim
 |_=>exact(binAV_none h hop).elim
theorem sure_ok {P:Program} {eqs:List TypeId} {id:Nat} {o:Oper} {s:St} {c:Bool} {e:Eff} (hs:sure s o=true) (h:opE P eqs s no id o=some (c,e)):c=true:=by
 unfold sure at hs
 unfold opE at h
 have map1:∀{α:Type} {x:Option α} {f:α→Eff},(x.map fun v=>(true,f v))=some (c,e)→c=true:=fun h=>by
  obtain⟨_,_,e⟩:=Option.map_eq_some_iff.1 h
  cases e
  rfl
 have yes1:∀{e':Eff},yes e'=some (c,e)→c=true:=fun h=>by cases h;rfl
 split at hs
 ·rename_i ho;rw[ho] at h;simp only at h;repeat' split at h
  all_goals first|exact yes1 h |cases h
 ·rename_i ho;rw[ho] at h;simp only at h;repeat' split at h
  all_goals first|exact yes1 h |cases h
 ·rename_i ho;rw[ho] at h;simp only at h;repeat' split at h
  all_goals first|exact yes1 h |cases h
 ·rename_i ho;rw[ho] at h;simp only at h;repeat' split at h
  all_goals first|exact yes1 h |cases h
 ·rename_i ho;rw[ho] at h;simp only at h;repeat' split at h
  all_goals first|exact map1 h |exact yes1 h |(cases h;done)
 ·rename_i ho;rw[ho] at h;simp only at h;repeat' split at h
  all_goals first|exact map1 h |exact yes1 h |(cases h;done)
 ·rename_i ho;rw[ho] at h;simp only at h;repeat' split at h
  all_goals first|exact map1 h |exact yes1 h |(cases h;done)
 ·rename_i ho;rw[ho] at h;simp only at h;repeat' split at h
  all_goals first|exact yes1 h |cases h
 ·rename_i ho;rw[ho] at h;simp only at h;repeat' split at h
  all_goals first|exact map1 h |exact yes1 h |(cases h;done)
 ·rename_i ho;rw[ho] at h;simp only at h;repeat' split at h
  all_goals first|exact map1 h |exact yes1 h |(cases h;done)
 ·rename_i ho;rw[ho] at h;simp only at h;repeat' split at h
  all_goals first|exact yes1 h |cases h
 ·rename_i ho;rw[ho] at h;simp only at h;repeat' split at h
  all_goals first|exact yes1 h |cases h
 ·rename_i ho;rw[ho] at h;simp only at h;repeat' split at h
  all_goals first|exact map1 h |exact yes1 h |(cases h;done)
 ·rename_i ho;rw[ho] at h;simp only at h;repeat' split at h
  all_goals first|exact map1 h |exact yes1 h |(cases h;done)
 ·rename_i op t x y _ ho
  rw[ho] at h
  simp only at h
  obtain⟨⟨c',v⟩,hb,e1⟩:=Option.map_eq_some_iff.1 h
  cases e1
  split at hs
  all_goals first|(refine binAV_sure hb ?_;simp;done) |skip
  ·split at hs
   ·rename_i hx
    rw[hx] at hb
    obtain⟨k',m',h'⟩:=binAV_left hb (by simp)
    exact intOp_sure h' ⟨(fun e=>by rcases e with e |e<;>cases e),(fun e=>by rcases e with e |e<;>cases e)⟩
   ·cases hs
  ·split at hs
   ·obtain⟨k',m',h'⟩:=binAV_right hb (by simp)
    exact intOp_sure h' ⟨fun _=>of_decide_eq_true hs,(fun e=>by rcases e with e |e<;>cases e)⟩
   ·cases hs
  ·split at hs
   ·obtain⟨k',m',h'⟩:=binAV_right hb (by simp)
    exact intOp_sure h' ⟨fun _=>of_decide_eq_true hs,(fun e=>by rcases e with e |e<;>cases e)⟩
   ·cases hs
  ·split at hs
   ·obtain⟨k',m',h'⟩:=binAV_right hb (by simp)
    exact intOp_sure h' ⟨(fun e=>by rcases e with e |e<;>cases e),fun _=>of_decide_eq_true hs⟩
   ·cases hs
  ·split at hs
   ·obtain⟨k',m',h'⟩:=binAV_right hb (by simp)
    exact intOp_sure h' ⟨(fun e=>by rcases e with e |e<;>cases e),fun _=>of_decide_eq_true hs⟩
   ·cases hs
 ·rename_i cl ho
  split at hs
  ·rename_i hcal
   rw[ho] at h
   simp only[hcal] at h
   repeat' split at h
   all_goals first|exact yes1 h |cases h
  ·rename_i hcal
   rw[ho] at h
   simp only[hcal] at h
   exact map1 h
  ·rename_i hcal
   rw[ho] at h
   simp only[hcal] at h
   exact map1 h
  ·cases hs
 ·cases hs
theorem sure_eff {id:Nat} {o:Oper} {s:St} {c:Bool} {e:Eff} (hs:sure s o=true) (h:effOf C s no id o=some (c,e)):c=true:=by
 unfold effOf at h
 split at h
 ·rename_i cl ho
  have hcal:∃b,cl.callee=.builtin b:=by
   unfold sure at hs
   rw[ho] at hs
   simp only at hs
   split at hs
   ·rename_i e;exact⟨_,e⟩
   ·rename_i e;exact⟨_,e⟩
   ·rename_i e;exact⟨_,e⟩
   ·cases hs
  obtain⟨b,hb⟩:=hcal
  have:calleeOf s cl=none:=by unfold calleeOf;rw[hb]
  rw[this] at h
  exact sure_ok hs h
 ·exact sure_ok hs h
theorem treeOp_spec {id:Nat} {o:Oper} {s:St} {t:Tree} (h:treeOp C n no id o s=some t):∃c a,dstOk n o=true∧walked C s o=none∧effOf C s no id o=some (c,.val a)∧(∀G,t.All G→c=true∧G (s.setO o.dst a))∧(∀G,G (s.setO o.dst a)→t.Leaves G):=by
 unfold treeOp at h
 cases hd:dstOk n o
 ·rw[hd] at h;cases h
 ·rw[hd] at h
  simp only[cond_true] at h
  split at h
  ·cases h
  ·rename_i hw
   split at h
   ·rename_i c a he
    cases h
    refine⟨c,a,rfl,hw,he,fun G hg=>?_,fun G hg=>?_⟩
    ·cases hs:sure s o
     ·rw[hs] at hg
      cases c
      ·exact(hg.2 rfl).elim
      ·exact⟨rfl,hg.1 rfl⟩
     ·rw[hs] at hg
      exact⟨sure_eff hs he,hg⟩
    ·cases hs:sure s o
     ·exact⟨hg,trivial⟩
     ·exact hg
   ·cases h
theorem treeOp_ok {call:CallIn} {id:Nat} {o:Oper} {s:St} {t:Tree} (h:treeOp C n no id o s=some t) {Kc:St→Option R} {r:R} (hk:t.All fun s'=>(∃c a,effOf C s no id o=some (c,.val a)∧s'=s.setO o.dst a)→Kc s'=some r):stepOp C call n no id o s Kc=some r:=by
 obtain⟨c,a,hd,hw,he,hg,_⟩:=treeOp_spec h
 obtain⟨rfl,hk'⟩:=hg _ hk
 unfold stepOp
 rw[hd,hw]
 simp only[cond_true,he]
 exact hk' ⟨_,a,he,rfl⟩
theorem treeOp_same {W:List Nat} {id:Nat} {o:Oper} {s:St} {t:Tree} (h:treeOp C n no id o s=some t) (hd:∀t,o.dst=some t→W.contains t=true):t.Leaves (Same W s):=by
 obtain⟨c,a,_,_,_,_,hl⟩:=treeOp_spec h
 exact hl _ (Same.setO _ hd)
def KnOk (kn:List (Nat×Bool)) (s:St):Prop:=∀p∈kn,s.get p.1=.bool p.2
theorem get_set {s:St} {d t:Nat} {v:AV}:(s.set d v).get t=if t=d then v else s.get t:=by
 simp only[St.set,St.get,look_put]
 split<;>rfl
theorem KnOk.setO {kn:List (Nat×Bool)} {s:St} (h:KnOk kn s) (d:Option Nat) (v:AV):KnOk (unknow d kn) (s.setO d v):=by
 cases d with
 |none=>exact h
 |some d =>
  intro p hp
  simp only[unknow,List.mem_filter,Bool.not_eq_true',beq_eq_false_iff_ne,ne_eq] at hp
  simp only[St.setO,get_set,if_neg hp.2]
  exact h p hp.1
theorem KnOk.set {kn:List (Nat×Bool)} {s:St} (h:KnOk kn s) {d:Nat} {c:Bool} (hd:s.get d=.bool c):KnOk ((d,c)::kn) (s.set d (.bool c)):=by
 intro p hp
 simp only[get_set]
 split
 ·rename_i e
  rcases List.mem_cons.1 hp with rfl |hp
  ·rfl
  ·have:=h p hp
   rw[e,hd] at this
   exact this
 ·rename_i e
  rcases List.mem_cons.1 hp with rfl |hp
  ·exact(e rfl).elim
  ·exact h p hp
theorem bval_ok {kn:List (Nat×Bool)} {s:St} (h:KnOk kn s) {x:Operand} {b:Bool} (hx:bval kn x=some b):opnd s x=.bool b:=by
 unfold bval at hx
 split at hx
 ·cases hx;rfl
 ·obtain⟨p,hp,rfl⟩:=Option.map_eq_some_iff.1 hx
  have h1:=h _ (List.mem_of_find?_eq_some hp)
  have h2:=List.find?_some hp
  simp only[beq_iff_eq] at h2
  rw[←h2]
  exact h1
 ·cases hx
theorem learnt_ok {kn:List (Nat×Bool)} {s:St} (h:KnOk kn s) {id:Nat} {o:Oper} {b c:Bool} {a:AV} (hl:learnt kn o=some b) (he:effOf C s no id o=some (c,.val a)):a=.bool b:=by
 unfold learnt at hl
 split at hl
 ·rename_i t ho
  have:=bval_ok h hl
  unfold effOf at he
  rw[ho] at he
  simp only at he
  unfold opE at he
  rw[ho] at he
  simp only[yes] at he
  cases he
  exact this
 ·rename_i t ho
  have:=bval_ok h hl
  unfold effOf at he
  rw[ho] at he
  simp only at he
  unfold opE at he
  rw[ho] at he
  simp only[yes] at he
  cases he
  exact this
 ·rename_i x y z ho
  unfold effOf at he
  rw[ho] at he
  simp only at he
  unfold opE at he
  rw[ho] at he
  simp only at he
  split at hl
  ·rename_i hx
   rw[bval_ok h hx] at he
   simp only[yes,cond_true] at he
   cases he
   exact bval_ok h hl
  ·rename_i hx
   rw[bval_ok h hx] at he
   simp only[yes,cond_false] at he
   cases he
   exact bval_ok h hl
  ·cases hl
 ·cases hl
theorem KnOk.learn {kn:List (Nat×Bool)} {s:St} (h:KnOk kn s) {id:Nat} {o:Oper} {c:Bool} {a:AV} (he:effOf C s no id o=some (c,.val a)):KnOk (learn o kn) (s.setO o.dst a):=by
 have h0:=h.setO o.dst a
 unfold Av.learn
 split
 ·rename_i d b hd hl
  rw[hd] at h0 ⊢
  intro p hp
  rcases List.mem_cons.1 hp with rfl |hp
  ·simp only[St.setO,get_set,if_true]
   exact learnt_ok h hl he
  ·exact h0 p hp
 ·exact h0
theorem treeOps_same {W:List Nat} (hops:∀o∈ops.toList,∀t,o.dst=some t→W.contains t=true):∀(l:List Oper) (id:Nat) (kn:List (Nat×Bool)) (s:St) (t:Tree),(∀o∈l,o∈ops.toList)→treeOps C n no ops l id kn s=some t→t.Leaves (Same W s)
 |[],_,_,s,t,_,h=>by cases h;exact Same.refl _ _
 |o::l,id,kn,s,t,hl,h=>by
  have hd:∀t,o.dst=some t→W.contains t=true:=hops o (hl o (by simp))
  have hl':∀o∈l,o∈ops.toList:=fun o ho=>hl o (by simp[ho])
  have step:∀(s':St) (kn':List (Nat×Bool)) (t':Tree),Same W s s'→((treeOp C n no id o s').bind fun t=>t.bindO (treeOps C n no ops l (id+16) kn'))=some t'→t'.Leaves (Same W s):=fun s' kn' t' hs hh=>by
   obtain⟨t1,e1,e2⟩:=Option.bind_eq_some_iff.1 hh
   exact Tree.Leaves.bindO (G:=Same W s) (fun s1 t2 h1 h2=>Tree.Leaves.imp (fun s2 h3=>h1.trans h3) _ (treeOps_same hops l _ _ _ _ hl' h2)) _ _ e2 (Tree.Leaves.imp (fun s2 h3=>hs.trans h3) _ (treeOp_same e1 hd))
  have skip:∀(s':St) (kn':List (Nat×Bool)) (t':Tree),Same W s s'→(bif dstOk n o then treeOps C n no ops l (id+16) kn' (s'.setO o.dst .undef) else none)=some t'→t'.Leaves (Same W s):=fun s' kn' t' hs hh=>by
   cases hdo:dstOk n o
   ·rw[hdo] at hh;cases hh
   ·rw[hdo] at hh
    exact Tree.Leaves.imp (fun s2 h3=>(hs.trans (Same.setO _ hd)).trans h3) _ (treeOps_same hops l _ _ _ _ hl' hh)
  unfold treeOps at h
  split at h
  ·exact step s _ t (Same.refl _ _) h
  ·rename_i j want hg
   split at h
   ·rename_i d hs
    have hdW:W.contains d=true:=by
     unfold guardSlot at hs
     obtain⟨o',ho',hd'⟩:=Option.bind_eq_some_iff.1 hs
     refine hops o' ?_ d hd'
     rw[←Array.getElem?_toList] at ho'
     exact List.mem_of_getElem? ho'
    have on:∀(c:Bool) (t':Tree),(bif c==want then(treeOp C n no id o (s.set d (.bool c))).bind fun t=>t.bindO (treeOps C n no ops l (id+16) (learn o ((d,c)::kn)))
      else bif dstOk n o then treeOps C n no ops l (id+16) (unknow o.dst ((d,c)::kn)) ((s.set d (.bool c)).setO o.dst .undef) else none)=some t'→t'.Leaves (Same W s):=fun c t' hh=>by
     cases hc:(c==want)
     ·rw[hc] at hh
      exact skip _ _ _ (Same.set _ hdW) hh
     ·rw[hc] at hh
      exact step _ _ _ (Same.set _ hdW) hh
    split at h
    ·simp only at h
     split at h
     ·exact on _ _ h
     ·split at h
      ·rename_i e1
       split at h
       ·rename_i e2
        cases h
        exact⟨on true _ e1,on false _ e2⟩
       ·cases h
      ·cases h
    ·exact skip _ _ _ (Same.refl _ _) h
    ·cases h
   ·cases h
theorem treeOps_ok {call:CallIn} {Kc:St→Option R} {r:R}:∀(l:List Oper) (id:Nat) (kn:List (Nat×Bool)) (s:St) (t:Tree),KnOk kn s→treeOps C n no ops l id kn s=some t→(t.All fun s=>Kc s=some r)→runOps C call n no ops l id s Kc=some r
 |[],_,_,s,t,_,h,hk=>by cases h;exact hk
 |o::l,id,kn,s,t,hkn,h,hk=>by
  have step:∀(s':St) (kn':List (Nat×Bool)) (t':Tree),KnOk kn' s'→((treeOp C n no id o s').bind fun t=>t.bindO (treeOps C n no ops l (id+16) (learn o kn')))=some t'→(t'.All fun s=>Kc s=some r) →
    stepOp C call n no id o s' (fun s=>runOps C call n no ops l (id+16) s Kc)=some r:=fun s' kn' t' hn hh hk'=>by
   obtain⟨t1,e1,e2⟩:=Option.bind_eq_some_iff.1 hh
   refine treeOp_ok e1 (Tree.All.imp (fun s1 hs1 ha=>?_) _ (Tree.All.bindO _ _ e2 hk'))
   obtain⟨t2,f1,f2⟩:=hs1
   obtain⟨_,a,he,rfl⟩:=ha
   exact treeOps_ok l _ _ _ _ (hn.learn he) f1 f2
  have skip:∀(s':St) (kn':List (Nat×Bool)) (t':Tree),KnOk kn' s'→(bif dstOk n o then treeOps C n no ops l (id+16) (unknow o.dst kn') (s'.setO o.dst .undef) else none)=some t'→(t'.All fun s=>Kc s=some r) →
    (bif dstOk n o then runOps C call n no ops l (id+16) (s'.setO o.dst .undef) Kc else none)=some r:=fun s' kn' t' hn hh hk'=>by
   cases hdo:dstOk n o
   ·rw[hdo] at hh;cases hh
   ·rw[hdo] at hh
    exact treeOps_ok l _ _ _ _ (hn.setO _ _) hh hk'
  unfold treeOps at h
  unfold runOps
  cases hg:o.guard with
  |none =>
   rw[hg] at h
   exact step s _ t hkn h hk
  |some jw =>
   obtain⟨j,want⟩:=jw
   rw[hg] at h
   simp only at h ⊢
   cases hs:guardSlot ops j with
   |none=>rw[hs] at h;cases h
   |some d =>
    rw[hs] at h
    simp only at h ⊢
    split at h
    ·rename_i b hb
     have fin:∀c,b=c→∀t',(bif c==want then(treeOp C n no id o (s.set d (.bool c))).bind fun t=>t.bindO (treeOps C n no ops l (id+16) (learn o ((d,c)::kn)))
       else bif dstOk n o then treeOps C n no ops l (id+16) (unknow o.dst ((d,c)::kn)) ((s.set d (.bool c)).setO o.dst .undef) else none)=some t'→(t'.All fun s=>Kc s=some r) →
       (bif b then(bif want then stepOp C call n no id o (s.set d (.bool true)) fun s=>runOps C call n no ops l (id+16) s Kc
         else bif dstOk n o then runOps C call n no ops l (id+16) ((s.set d (.bool true)).setO o.dst .undef) Kc else none)
        else(bif want then bif dstOk n o then runOps C call n no ops l (id+16) ((s.set d (.bool false)).setO o.dst .undef) Kc else none
         else stepOp C call n no id o (s.set d (.bool false)) fun s=>runOps C call n no ops l (id+16) s Kc))=some r:=fun c hb' t' hh hk'=>by
      have hn:KnOk ((d,c)::kn) (s.set d (.bool c)):=hkn.set (by rw[hb,hb'])
      have on:(bif c==want then stepOp C call n no id o (s.set d (.bool c)) (fun s=>runOps C call n no ops l (id+16) s Kc) else bif dstOk n o then runOps C call n no ops l (id+16) ((s.set d (.bool c)).setO o.dst .undef) Kc else none)=some r:=by
       cases hc:(c==want)
       ·rw[hc] at hh
        exact skip _ _ _ hn hh hk'
       ·rw[hc] at hh
        exact step _ _ _ hn hh hk'
      subst hb'
      cases b<;>cases want<;>exact on
     split at h
     ·rename_i p c hf
      have hp:=List.mem_of_find?_eq_some hf
      have hpd:=List.find?_some hf
      simp only[beq_iff_eq] at hpd
      have hkb:=hkn _ hp
      simp only at hkb
      rw[hpd,hb] at hkb
      have hbc:b=c:=by
       have:=congrArg (fun a:AV=>match a with|⟨.ty .bool,b⟩=>b |_=>true) hkb
       exact this
      exact fin c hbc t h hk
     ·split at h
      ·rename_i e1
       split at h
       ·rename_i e2
        cases h
        cases hb':b
        ·have:=fin false hb' _ e2 (hk.2 hb')
         rw[hb'] at this
         exact this
        ·have:=fin true hb' _ e1 (hk.1 hb')
         rw[hb'] at this
         exact this
       ·cases h
      ·cases h
    ·exact skip _ _ _ hkn h hk
    ·cases h
end
end Go.Av
end
