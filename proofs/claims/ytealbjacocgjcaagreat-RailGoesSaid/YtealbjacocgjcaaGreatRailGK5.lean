/- Texts of the proof, one behind the other. -/
import Derived.Test.YtealbjacocgjcaaGreatRailGK4
section
namespace Go.Av
open Go
theorem look_put {α:Type} (k:Nat) (v:α) (m:Nat):∀l:List (Nat×α),look m (put k v l)=if m=k then some v else look m l
 |[]=>by
  by_cases h:m=k
  ·simp[put,look,h]
  ·simp[put,look,h]
 |(j,u)::l=>by
  have ih:=look_put k v m l
  by_cases hkj:k=j
  ·subst hkj
   by_cases h:m=k
   ·simp[put,look,h]
   ·simp[put,look,h]
  ·by_cases hlt:k<j
   ·by_cases h:m=k
    ·subst h
     simp[put,look,hkj,Nat.blt_eq,hlt]
    ·by_cases hmk:m<k
     ·have h1:m≠j:=by omega
      have h2:m<j:=by omega
      simp[put,look,hkj,Nat.blt_eq,hlt,h,hmk,h1,h2]
     ·simp[put,look,hkj,Nat.blt_eq,hlt,h,hmk]
   ·by_cases h:m=k
    ·subst h
     have h3:¬m<j:=hlt
     simp[put,look,hkj,Nat.blt_eq,h3,ih]
    ·simp[put,look,hkj,Nat.blt_eq,hlt,h,ih]
theorem look_mapV {α:Type} (f:α→α) (m:Nat):∀l:List (Nat×α),look m (mapV f l)=(look m l).map f
 |[]=>rfl
 |(j,u)::l=>by
  simp only[mapV,look,look_mapV f m l]
  split
  ·rfl
  ·split<;>rfl
structure Fr where
 w0:World
 K0:Kinds
 a0:Array Value
 T:Nat→Bool
 ds:List Deferred
structure Rel (fr:Fr) (n:Nat) (K:Kinds) (s:St) (a:Act) (w:World):Prop where
 ext:Ext fr.w0 fr.K0 w K
 size:a.tmps.size=n
 defers:a.defers=fr.ds
 ents:∀t av,look t s.ents=some av→RV w K av (a.tmps.getD t undef)
 frame:∀t,look t s.ents=none→fr.T t=false→a.tmps[t]?=fr.a0[t]?
 heap:∀b id,b<w.heap.size→K b=.box id→∃av o,look id s.heap=some av∧w.heap[b]?=some o∧BoxOk w K av.sh av.v o
 uniq:∀b b' id,b<w.heap.size→b' < w.heap.size→K b=.box id→K b'=.box id→b=b'
structure Still (w:World) (K:Kinds) (w':World) (K':Kinds):Prop where
 ext:Ext w K w' K'
 rows:∀b id u,b<w.heap.size→K b=.row id u→K' b=.row id u∧w'.heap[b]?=w.heap[b]?
 boxes:∀b id,b<w.heap.size→K b=.box id→w'.heap[b]?=w.heap[b]?
 fresh:∀b,b<w'.heap.size→∀id,K' b=.box id→b<w.heap.size∧K b=.box id
theorem Still.refl (w:World) (K:Kinds):Still w K w K:=⟨.refl w K,fun _ _ _ _ h=>⟨h,rfl⟩,fun _ _ _ _=>rfl,fun _ h _ h'=>⟨h,h'⟩⟩
theorem Still.trans {w w' w'':World} {K K' K'':Kinds} (h:Still w K w' K') (g:Still w' K' w'' K''):Still w K w'' K'' where
 ext:=h.ext.trans g.ext
 rows:=fun b id u hb hk=>by
  obtain⟨h1,h2⟩:=h.rows b id u hb hk
  obtain⟨g1,g2⟩:=g.rows b id u (Nat.lt_of_lt_of_le hb h.ext.size) h1
  exact⟨g1,g2.trans h2⟩
 boxes:=fun b id hb hk=>(g.boxes b id (Nat.lt_of_lt_of_le hb h.ext.size) (h.ext.box b id hb hk)).trans (h.boxes b id hb hk)
 fresh:=fun b hb id hk=>by
  obtain⟨g1,g2⟩:=g.fresh b hb id hk
  exact h.fresh b g1 id g2
theorem R1.still {w w':World} {K K':Kinds} (g:Still w K w' K') (s:Sh) (x:s.den) (v:Value) (h:R1 w K s x v):R1 w' K' s x v :=
 ⟨RS.ext g.ext g.rows s x _ h.1,h.2⟩
theorem RTup.still {w w':World} {K K':Kinds} (g:Still w K w' K'):∀(s:Sh) (x:s.den) (vs:List Value),RTup w K s x vs→RTup w' K' s x vs
 | .pair a b,x,_::vs,h=>⟨R1.still g a x.1 _ h.1,RTup.still g b x.2 vs h.2⟩
 | .pair _ _,_,[],h=>h.elim
 | .ty .unit,_,_,h=>h
 | .ty (.pair _ _),_,_,h=>h.elim
 | .ty (.arr _ _),_,_,h=>h.elim
 | .ty (.int _),_,_,h=>h.elim
 | .ty .bool,_,_,h=>h.elim
 | .ty .str,_,_,h=>h.elim
 | .ty .func,_,_,h=>h.elim
 | .ty (.sl _),_,_,h=>h.elim
 | .osl ..,_,_,h=>h.elim
 | .box ..,_,_,h=>h.elim
 | .boxi ..,_,_,h=>h.elim
 | .win ..,_,_,h=>h.elim
 | .elp ..,_,_,h=>h.elim
 | .mp _,_,_,h=>h.elim
 | .nbox _,_,_,h=>h.elim
 | .tsl ..,_,_,h=>h.elim
 | .wsl ..,_,_,h=>h.elim
 | .wref ..,_,_,h=>h.elim
 | .rowc _,_,_,h=>h.elim
 | .mapc,_,_,h=>h.elim
 | .tyc ..,_,_,h=>h.elim
 | .ref ..,_,_,h=>h.elim
 | .fn ..,_,_,h=>h.elim
 | .lit ..,_,_,h=>h.elim
 | .tup ..,_,_,h=>h.elim
 | .top,_,_,h=>h.elim
theorem RV.still {w w':World} {K K':Kinds} (g:Still w K w' K') {av:AV} {v:Value} (h:RV w K av v):RV w' K' av v:=by
 obtain⟨s,x⟩:=av
 cases s
 case tup a=>obtain⟨vs,e,h⟩:=h;exact⟨vs,e,RTup.still g a x _ h⟩
 case top=>trivial
 all_goals exact R1.still g _ x v h
section
variable {fr:Fr} {n:Nat} {K K':Kinds} {s:St} {a:Act} {w w':World}
theorem Rel.still (h:Rel fr n K s a w) (g:Still w K w' K'):Rel fr n K' s a w' where
 ext:=h.ext.trans g.ext
 size:=h.size
 defers:=h.defers
 ents:=fun t av ht=>(h.ents t av ht).still g
 frame:=h.frame
 heap:=fun b id hb hk=>by
  obtain⟨h1,h2⟩:=g.fresh b hb id hk
  obtain⟨av,o,e1,e2,e3⟩:=h.heap b id h1 h2
  exact⟨av,o,e1,(g.boxes b id h1 h2).trans e2,e3.imp (RT.ext g.ext.stab) (RS.ext g.ext g.rows)⟩
 uniq:=fun b b' id hb hb' hk hk'=>by
  obtain⟨h1,h2⟩:=g.fresh b hb id hk
  obtain⟨h3,h4⟩:=g.fresh b' hb' id hk'
  exact h.uniq b b' id h1 h3 h2 h4
theorem getD_set {A:Array Value} {d:Nat} {v:Value} (t:Nat) (hd:d<A.size):(A.setIfInBounds d v).getD t undef=if t=d then v else A.getD t undef:=by
 simp only[Array.getD_eq_getD_getElem?,Array.getElem?_setIfInBounds]
 by_cases h:d=t
 ·subst h;simp[hd]
 ·rw[if_neg h,if_neg (Ne.symm h)]
theorem Rel.set (h:Rel fr n K s a w) {d:Nat} {av:AV} {v:Value} (hd:d<n) (hv:RV w K av v):Rel fr n K (s.set d av) (a.put (some d) v) w where
 ext:=h.ext
 size:=by simp[Act.put,h.size]
 defers:=h.defers
 ents:=fun t av' ht=>by
  simp only[St.set,look_put] at ht
  simp only[Act.put]
  rw[getD_set t (by rw[h.size];exact hd)]
  by_cases e:t=d
  ·subst e
   simp only[if_true] at ht ⊢
   cases ht
   exact hv
  ·rw[if_neg e] at ht ⊢
   exact h.ents t av' ht
 frame:=fun t ht hT=>by
  simp only[St.set,look_put] at ht
  by_cases e:t=d
  ·rw[if_pos e] at ht;cases ht
  ·rw[if_neg e] at ht
   simp only[Act.put,Array.getElem?_setIfInBounds]
   rw[if_neg (Ne.symm e)]
   exact h.frame t ht hT
 heap:=h.heap
 uniq:=h.uniq
theorem Rel.setO (h:Rel fr n K s a w) {d:Option Nat} {av:AV} {v:Value} (hd:∀t,d=some t→t<n) (hv:RV w K av v):Rel fr n K (s.setO d av) (a.put d v) w:=by
 cases d with
 |none=>exact h
 |some t=>exact h.set (hd t rfl) hv
theorem RV_top (v:Value):RV w K .top v:=trivial
theorem Rel.get (h:Rel fr n K s a w) (t:Nat):RV w K (s.get t) (a.tmps.getD t undef):=by
 unfold St.get
 cases e:look t s.ents with
 |none=>exact RV_top _
 |some av=>exact h.ents t av e
end
def setK (K:Kinds) (b:Nat) (k:Kind):Kinds:=fun x=>if x=b then k else K x
theorem setK_same (K:Kinds) (b:Nat) (k:Kind):setK K b k b=k:=by simp[setK]
theorem setK_other (K:Kinds) {b x:Nat} (k:Kind) (h:x≠b):setK K b k x=K x:=by simp[setK,h]
theorem alloc_size (w:World) (o:Obj):(w.alloc o).heap.size=w.heap.size+1:=by
 show(w.heap.push o).size=_
 exact Array.size_push _
theorem Ext.alloc (w:World) (K:Kinds) (c:Array Value) (t:TypeId) (k:Kind) (m:Nat):Ext w K ({w with drawn:=w.drawn+m}.alloc (.cells c t (0,0))) (setK K w.heap.size k) where
 os:=rfl
 tape:=rfl
 output:=rfl
 size:=by rw[alloc_size];exact Nat.le_succ _
 fix:=fun b hb _=>⟨setK_other K k (by omega),heap_alloc_old _ _ b hb⟩
 stab:=fun b o' hb hk=>⟨by unfold Stab at *;rw[setK_other K k (by omega)];exact hk,World.cell?_alloc_lt _ _ _ hb⟩
 box:=fun b id hb hk=>by rw[setK_other K k (by omega)];exact hk
 bsz:=fun b id n _ _ ⟨cs,T,h1,h2⟩=>⟨cs,T,(heap_alloc_old {w with drawn:=w.drawn+m} _ b (Array.getElem?_eq_some_iff.1 h1).1).trans h1,h2⟩
theorem Still.alloc (w:World) (K:Kinds) (c:Array Value) (t:TypeId) (id u m:Nat):Still w K ({w with drawn:=w.drawn+m}.alloc (.cells c t (0,0))) (setK K w.heap.size (.row id u)) where
 ext:=Ext.alloc w K c t _ m
 rows:=fun b id' u' hb hk=>⟨by rw[setK_other K _ (by omega)];exact hk,heap_alloc_old _ _ b hb⟩
 boxes:=fun b _ hb _=>heap_alloc_old _ _ b hb
 fresh:=fun b hb id' hk=>by
  by_cases e:b=w.heap.size
  ·subst e;rw[setK_same] at hk;cases hk
  ·rw[setK_other K _ e] at hk
   rw[alloc_size] at hb
   exact⟨by have:b<w.heap.size+1:=hb;omega,hk⟩
theorem heap_new (w:World) (o:Obj):(w.alloc o).heap[w.heap.size]?=some o:=heap_alloc_new w o
theorem At.new (w:World) (K:Kinds) (cs:List Value) (rest:Array Value) (T:TypeId) (fz:Nat×Nat) (id u m:Nat) (hu:cs.length≤u) :
  At ({w with drawn:=w.drawn+m}.alloc (.cells (cs.toArray++rest) T fz)) (setK K w.heap.size (.row id u)) ⟨w.heap.size,0,none⟩ cs:=by
 intro j v hj
 have hlt:j<cs.length:=(List.getElem?_eq_some_iff.1 hj).1
 refine⟨rfl,?_,?_⟩
 ·have:=heap_new {w with drawn:=w.drawn+m} (.cells (cs.toArray++rest) T fz)
  simp only[World.cell?,Nat.zero_add]
  rw[show({w with drawn:=w.drawn+m}:World).heap.size=w.heap.size from rfl] at this
  rw[this]
  simp only[Option.isSome_none,Bool.false_eq_true,if_false]
  rw[Array.getElem?_append_left (by simpa using hlt)]
  simpa using hj
 ·unfold Stab
  rw[setK_same]
  show 0+j<u
  omega
def Obj.thaw:Obj→Bool
 | .cells _ _ (0,0)=>true
 | .cells _ _ _=>false
 |_=>true
theorem BoxOk.thaw {w:World} {K:Kinds} {s:Sh} {x:s.den} {o:Obj} (h:BoxOk w K s x o):Obj.thaw o=true:=by
 cases s
 case mapc=>obtain⟨es,c,rfl,_⟩:=h;rfl
 case tyc=>obtain⟨cs,rfl,_⟩:=h;rfl
 all_goals (obtain⟨cs,T,rfl,_⟩:=h;rfl)
theorem RowLen.alloc {w:World} {o:Obj} {b n:Nat} (h:RowLen w b n):RowLen (w.alloc o) b n:=by
 obtain⟨cs,T,h1,h2⟩:=h
 exact⟨cs,T,(heap_alloc_old _ _ b (Array.getElem?_eq_some_iff.1 h1).1).trans h1,h2⟩
theorem Ext.allocO (w:World) (K:Kinds) (o:Obj) (_ho:Obj.thaw o=true) (k:Kind):Ext w K (w.alloc o) (setK K w.heap.size k) where
 os:=rfl
 tape:=rfl
 output:=rfl
 size:=by rw[alloc_size];exact Nat.le_succ _
 fix:=fun b hb _=>⟨setK_other K k (by omega),heap_alloc_old _ _ b hb⟩
 stab:=fun b o' hb hk=>⟨by unfold Stab at *;rw[setK_other K k (by omega)];exact hk,World.cell?_alloc_lt _ _ _ hb⟩
 box:=fun b id hb hk=>by rw[setK_other K k (by omega)];exact hk
 bsz:=fun b id n _ _ hn=>hn.alloc
theorem Rel.newObj {fr:Fr} {n:Nat} {K:Kinds} {s:St} {a:Act} {w:World} (h:Rel fr n K s a w) {d:Option Nat} (hd:∀t,d=some t→t<n) {id:Nat} (hid:look id s.heap=none)
  {c r:AV} {o:Obj} {v:Value} (hc:BoxOk w K c.sh c.v o) (hr:RV (w.alloc o) (setK K w.heap.size (.box id)) r v) :
  Rel fr n (setK K w.heap.size (.box id)) (s.apply d (.new id c r)) (a.put d v) (w.alloc o):=by
 have hx:Ext w K (w.alloc o) (setK K w.heap.size (.box id)):=Ext.allocO w K o hc.thaw _
 have hrows:∀b id' u,b<w.heap.size→K b=.row id' u→setK K w.heap.size (.box id) b=.row id' u∧(w.alloc o).heap[b]?=w.heap[b]? :=
  fun b _ _ hb hk=>⟨by rw[setK_other K _ (by omega)];exact hk,heap_alloc_old _ _ b hb⟩
 have hnot:∀b,b<w.heap.size→K b≠.box id:=fun b hb hk=>by
  obtain⟨av,_,e,_⟩:=h.heap b id hb hk
  rw[hid] at e;cases e
 have hsz:(w.alloc o).heap.size=w.heap.size+1:=alloc_size _ _
 have base:Rel fr n (setK K w.heap.size (.box id)) {s with heap:=Av.put id c s.heap} a (w.alloc o):={
  ext:=h.ext.trans hx
  size:=h.size
  defers:=h.defers
  ents:=fun t av ht=>by
   have hv:=h.ents t av ht
   obtain⟨sh,x⟩:=av
   have key:∀(s:Sh) (x:s.den) (v:Value),R1 w K s x v→R1 (w.alloc o) (setK K w.heap.size (.box id)) s x v:=fun s x v hh=>⟨RS.ext hx hrows s x _ hh.1,hh.2⟩
   have keyT:∀(s:Sh) (x:s.den) (vs:List Value),RTup w K s x vs→RTup (w.alloc o) (setK K w.heap.size (.box id)) s x vs:=by
    intro s
    induction s with
    |pair a b _ ihb =>
     intro x vs hh
     cases vs with
     |nil=>exact hh.elim
     |cons v vs=>exact⟨key a x.1 v hh.1,ihb x.2 vs hh.2⟩
    |ty t=>intro x vs hh;cases t<;>first|exact hh |exact hh.elim
    |_=>intro x vs hh;exact hh.elim
   cases sh
   case tup a=>obtain⟨vs,e,hh⟩:=hv;exact⟨vs,e,keyT a x _ hh⟩
   case top=>trivial
   all_goals exact key _ x _ hv
  frame:=h.frame
  heap:=fun b id' hb hk=>by
   simp only[look_put]
   by_cases e:b=w.heap.size
   ·subst e
    rw[setK_same] at hk
    injection hk with hk
    subst hk
    exact⟨c,o,by simp,heap_new w _,hc.imp (RT.ext hx.stab) (RS.ext hx hrows)⟩
   ·rw[setK_other K _ e] at hk
    have hb':b<w.heap.size:=by omega
    have hne:id'≠id:=fun e'=>hnot b hb' (e'▸hk)
    obtain⟨av,o',e1,e2,e3⟩:=h.heap b id' hb' hk
    exact⟨av,o',by rw[if_neg hne];exact e1,(heap_alloc_old _ _ b hb').trans e2,e3.imp (RT.ext hx.stab) (RS.ext hx hrows)⟩
  uniq:=fun b b' id' hb hb' hk hk'=>by
   by_cases e:b=w.heap.size<;>by_cases e':b'=w.heap.size
   ·rw[e,e']
   ·subst e
    rw[setK_same] at hk
    injection hk with hk
    rw[setK_other K _ e'] at hk'
    exact(hnot b' (by omega) (hk▸hk')).elim
   ·subst e'
    rw[setK_same] at hk'
    injection hk' with hk'
    rw[setK_other K _ e] at hk
    exact(hnot b (by omega) (hk'▸hk)).elim
   ·rw[setK_other K _ e] at hk
    rw[setK_other K _ e'] at hk'
    exact h.uniq b b' id' (by omega) (by omega) hk hk'}
 have:=base.setO (d:=d) hd hr
 cases d<;>exact this
theorem Rel.newBox {fr:Fr} {n:Nat} {K:Kinds} {s:St} {a:Act} {w:World} (h:Rel fr n K s a w) {d:Option Nat} (hd:∀t,d=some t→t<n) {id:Nat} (hid:look id s.heap=none)
  {c:AV} {cs:Array Value} (T:TypeId) (hc:BoxOk w K c.sh c.v (.cells cs T (0,0))) :
  Rel fr n (setK K w.heap.size (.box id)) (s.apply d (.new id c (.box id 0))) (a.put d (.pointer (some ⟨w.heap.size,0,none⟩))) (w.alloc (.cells cs T)) :=
 h.newObj hd hid hc ⟨⟨w.heap.size,rfl,setK_same _ _ _,by rw[alloc_size];omega⟩,(fun e=>(by cases e)),(fun _ c e=>(by cases e))⟩
theorem Rel.putObj {fr:Fr} {n:Nat} {K:Kinds} {s:St} {a:Act} {w w':World} (h:Rel fr n K s a w) {d:Option Nat} (hd:∀t,d=some t→t<n) {id b:Nat} (hb:b<w.heap.size) (hk:K b=.box id)
  (hos:w'.os=w.os) (htp:w'.tape=w.tape) (hou:w'.output=w.output) (hsz:w'.heap.size=w.heap.size) (ho:∀x,x≠b→w'.heap[x]?=w.heap[x]?) {o o':Obj} (hcur:w.heap[b]?=some o) (_ht:Obj.thaw o=true)
  (hh:w'.heap[b]?=some o') (hlen:∀m,RowLen w b m→RowLen w' b m) {c:AV} (hc:BoxOk w K c.sh c.v o') (v:Value) :
  Rel fr n K (s.apply d (.put id c)) (a.put d v) w':=by
 have keep:Keep w K w' K:=fun x o hx hs=>by
  have hne:x≠b:=fun e=>by subst e;unfold Stab at hs;rw[hk] at hs;exact hs
  exact⟨hs,World.cell?_of_block (a:=⟨x,o,none⟩) (ho x hne)⟩
 have hx:Ext w K w' K:={
  os:=hos
  tape:=htp
  output:=hou
  size:=Nat.le_of_eq hsz.symm
  fix:=fun x hx hkx=>⟨rfl,ho x (fun e=>by subst e;rw[hk] at hkx;cases hkx)⟩
  stab:=keep
  box:=fun _ _ _ hkx=>hkx
  bsz:=fun x _ m _ _ hn=>by
   by_cases e:x=b
   ·subst e;exact hlen m hn
   ·obtain⟨cs,T,h1,h2⟩:=hn
    exact⟨cs,T,(ho x e).trans h1,h2⟩}
 have hrows:∀x id' u,x<w.heap.size→K x=.row id' u→K x=.row id' u∧w'.heap[x]?=w.heap[x]? :=
  fun x _ _ _ hkx=>⟨hkx,ho x (fun e=>by subst e;rw[hk] at hkx;cases hkx)⟩
 have hrs:∀(s:Sh) (x:s.den) (cs':List Value),RS w K s x cs'→RS w' K s x cs':=fun s x cs'=>RS.ext hx hrows s x cs'
 have hr1:∀(s:Sh) (x:s.den) (v:Value),R1 w K s x v→R1 w' K s x v:=fun s x v hh=>⟨hrs s x _ hh.1,hh.2⟩
 have hrt:∀(s:Sh) (x:s.den) (vs:List Value),RTup w K s x vs→RTup w' K s x vs:=by
  intro s
  induction s with
  |pair a b _ ihb =>
   intro x vs hh
   cases vs with
   |nil=>exact hh.elim
   |cons v vs=>exact⟨hr1 a x.1 v hh.1,ihb x.2 vs hh.2⟩
  |ty t=>intro x vs hh;cases t<;>first|exact hh |exact hh.elim
  |_=>intro x vs hh;exact hh.elim
 have base:Rel fr n K {s with heap:=Av.put id c s.heap} a w':={
  ext:=h.ext.trans hx
  size:=h.size
  defers:=h.defers
  ents:=fun t av ht=>by
   have hv:=h.ents t av ht
   obtain⟨sh,x⟩:=av
   cases sh
   case tup a=>obtain⟨vs,e,hh⟩:=hv;exact⟨vs,e,hrt a x _ hh⟩
   case top=>trivial
   all_goals exact hr1 _ x _ hv
  frame:=h.frame
  heap:=fun x id' hx' hkx=>by
   rw[hsz] at hx'
   simp only[look_put]
   by_cases e:x=b
   ·subst e
    rw[hk] at hkx
    injection hkx with hkx
    subst hkx
    exact⟨c,o',by simp,hh,hc.imp (RT.ext keep) hrs⟩
   ·have hne:id'≠id:=fun e'=>e (h.uniq x b id hx' hb (e'▸hkx) hk)
    obtain⟨av,o2,e1,e2,e3⟩:=h.heap x id' hx' hkx
    exact⟨av,o2,by rw[if_neg hne];exact e1,(ho x e).trans e2,e3.imp (RT.ext keep) hrs⟩
  uniq:=fun x x' id' hx' hx''=>by rw[hsz] at hx' hx'';exact h.uniq x x' id' hx' hx''}
 have:=base.setO (d:=d) hd (RV_top v)
 cases d<;>exact this
theorem Rel.putBox {fr:Fr} {n:Nat} {K:Kinds} {s:St} {a:Act} {w:World} (h:Rel fr n K s a w) {d:Option Nat} (hd:∀t,d=some t→t<n) {id b:Nat} (hb:b<w.heap.size) (hk:K b=.box id)
  {c:AV} {cs:Array Value} {T:TypeId} {cur:Array Value} (hcur:w.heap[b]?=some (.cells cur T (0,0))) (hsize:cur.size≤cs.size) (hc:BoxOk w K c.sh c.v (.cells cs T (0,0))) (v:Value) :
  Rel fr n K (s.apply d (.put id c)) (a.put d v) (w.setRow b cs) :=
 h.putObj (w':=w.setRow b cs) hd hb hk rfl rfl rfl (setRow_size w b cs) (fun x hx=>setRow_other w b x cs hx) hcur rfl (setRow_heap w b cur cs T (0,0) hcur)
  (fun m ⟨cs',T',h1,h2⟩=>⟨cs,T,setRow_heap w b cur cs T (0,0) hcur,by rw[hcur] at h1;cases h1;omega⟩) hc v
theorem Rel.app {fr:Fr} {n:Nat} {K K':Kinds} {s:St} {a:Act} {w w':World} (h:Rel fr n K s a w) {d:Option Nat} (hd:∀t,d=some t→t<n) {id:Nat} {r:AV} {v:Value}
  (hx:Ext w K w' K') (hr:∀b id' u,id'≠id→b<w.heap.size→K b=.row id' u→K' b=.row id' u∧w'.heap[b]?=w.heap[b]?)
  (hbx:∀b id',b<w.heap.size→K b=.box id'→w'.heap[b]?=w.heap[b]?)
  (hfresh:∀b,b<w'.heap.size→∀id',K' b=.box id'→b<w.heap.size∧K b=.box id') (hv:RV w' K' r v) :
  Rel fr n K' (s.apply d (.app id r)) (a.put d v) w':=by
 have hrow:∀b id' u j,b<w.heap.size→K b=.row id' u→strike id id'=some j→K' b=.row j u∧w'.heap[b]?=w.heap[b]?:=fun b id' u j hb hk hj=>by
  unfold strike at hj
  split at hj
  ·cases hj
  ·rename_i hne
   cases hj
   exact hr b id' u (fun e=>hne (by simp[e])) hb hk
 have hbox:∀b id' j,b<w.heap.size→K b=.box id'→some id'=some j→K' b=.box j∧∀n,RowLen w b n→RowLen w' b n:=fun b id' j hb hk hj=>by
  cases hj
  exact⟨hx.box b id' hb hk,fun n hn=>hx.bsz b id' n hb hk hn⟩
 have base:Rel fr n K' {ents:=mapV (·.ren (strike id) some) s.ents,heap:=mapV (·.ren (strike id) some) s.heap,next:=s.next} a w':={
  ext:=h.ext.trans hx
  size:=h.size
  defers:=h.defers
  ents:=fun t av ht=>by
   simp only[look_mapV,Option.map_eq_some_iff] at ht
   obtain⟨av',e1,e2⟩:=ht
   subst e2
   exact RV.ren hx.stab hx.size hrow hbox (h.ents t av' e1)
  frame:=fun t ht=>h.frame t (by simpa [look_mapV] using ht)
  heap:=fun b id' hb hk=>by
   obtain⟨h1,h2⟩:=hfresh b hb id' hk
   obtain⟨av,o,e1,e2,e3⟩:=h.heap b id' h1 h2
   exact⟨av.ren (strike id) some,o,by simp[look_mapV,e1],(hbx b id' h1 h2).trans e2,BoxOk.ren hx.stab hx.size hrow hbox e3⟩
  uniq:=fun b b' id' hb hb' hk hk'=>by
   obtain⟨h1,h2⟩:=hfresh b hb id' hk
   obtain⟨h3,h4⟩:=hfresh b' hb' id' hk'
   exact h.uniq b b' id' h1 h3 h2 h4}
 have:=base.setO (d:=d) hd hv
 cases d<;>exact this
end Go.Av
end
