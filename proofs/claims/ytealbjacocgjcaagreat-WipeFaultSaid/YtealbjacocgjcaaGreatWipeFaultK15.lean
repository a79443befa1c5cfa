/- Texts of the proof, one behind the other. -/
import Derived.Test.YtealbjacocgjcaaGreatWipeFaultK14
section
namespace Go.Av
open Go
theorem blt_true {a b:Nat} (h:a<b):Nat.blt a b=true:=by rwa [Nat.blt_eq]
theorem blt_false {a b:Nat} (h:¬a<b):Nat.blt a b=false:=by
 cases hb:Nat.blt a b
 ·rfl
 ·rw[Nat.blt_eq] at hb;exact(h hb).elim
theorem beq_false {a b:Nat} (h:a≠b):(a==b)=false:=by simpa using h
theorem put_lt {α:Type} {j k:Nat} (h:j<k) (x y:α):∀l:List (Nat×α),put j x (put k y l)=put k y (put j x l)
 |[]=>by simp[put,beq_false (Nat.ne_of_lt h),beq_false (Nat.ne_of_gt h),blt_true h,blt_false (Nat.lt_asymm h)]
 |(m,u)::l=>by
  have ih:=put_lt h x y l
  rcases Nat.lt_trichotomy m j with h1 |h1 |h1
  · -- m < j < k
   have e1:=beq_false (Nat.ne_of_gt h1)
   have e2:=blt_false (Nat.lt_asymm h1)
   have h2:m<k:=Nat.lt_trans h1 h
   have e3:=beq_false (Nat.ne_of_gt h2)
   have e4:=blt_false (Nat.lt_asymm h2)
   simp[put,e1,e2,e3,e4,ih]
  ·subst h1
   have e3:=beq_false (Nat.ne_of_gt h)
   have e4:=blt_false (Nat.lt_asymm h)
   simp[put,e3,e4]
  ·rcases Nat.lt_trichotomy m k with h2 |h2 |h2
   · -- j < m < k
    have e1:=beq_false (Nat.ne_of_lt h1)
    have e2:=blt_true h1
    have e3:=beq_false (Nat.ne_of_gt h2)
    have e4:=blt_false (Nat.lt_asymm h2)
    have e5:=beq_false (Nat.ne_of_gt h)
    have e6:=blt_false (Nat.lt_asymm h)
    simp[put,e1,e2,e3,e4,e5,e6]
   ·subst h2
    have e1:=beq_false (Nat.ne_of_lt h1)
    have e2:=blt_true h1
    have e5:=beq_false (Nat.ne_of_gt h)
    have e6:=blt_false (Nat.lt_asymm h)
    simp[put,e1,e2,e5,e6]
   ·have e1:=beq_false (Nat.ne_of_lt h1)
    have e2:=blt_true h1
    have e3:=beq_false (Nat.ne_of_lt h2)
    have e4:=blt_true h2
    have e5:=beq_false (Nat.ne_of_gt h)
    have e6:=blt_false (Nat.lt_asymm h)
    have e7:=beq_false (Nat.ne_of_lt h)
    have e8:=blt_true h
    simp[put,e1,e2,e3,e4,e5,e6,e7,e8]
theorem put_comm {α:Type} {j k:Nat} (h:j≠k) (x y:α) (l:List (Nat×α)):put j x (put k y l)=put k y (put j x l):=by
 rcases Nat.lt_or_gt_of_ne h with h |h
 ·exact put_lt h x y l
 ·exact(put_lt h y x l).symm
theorem mapV_put {α:Type} (f:α→α) (k:Nat) (x:α):∀l:List (Nat×α),mapV f (put k x l)=put k (f x) (mapV f l)
 |[]=>rfl
 |(m,u)::l=>by
  simp only[put,mapV]
  split
  ·rfl
  ·split
   ·rfl
   ·simp only[mapV,mapV_put f k x l]
def stepD (C:Ctx) (n:Nat) (no:Lim) (ops:Array Oper) (id:Nat) (o:Oper) (s:St):Option St :=
 let go:Option St:=if dstOk n o then
   (match walked C s o with
   |some _=>none
   |none=>match effOf C s no id o with
    |some (c,e)=>if c then some (s.apply o.dst e) else none
    |none=>none) else none
 match o.guard with
 |none=>go
 |some (j,want)=>match guardSlot ops j with
  |some d=>(match s.get d with
   |⟨.ty .bool,b⟩=>if b==want then go else if dstOk n o then some (s.setO o.dst .undef) else none
   |⟨.tup (.ty .unit),_⟩=>if dstOk n o then some (s.setO o.dst .undef) else none
   |_=>none)
  |none=>none
def withIds:List Oper→Nat→List (Nat×Oper)
 |[],_=>[]
 |o::l,id=>(id,o)::withIds l (id+16)
section
variable {C:Ctx} {n:Nat} {no:Lim} {ops:Array Oper}
theorem stepOp_D {id:Nat} {o:Oper} {s:St} {Kc:St→Option R} {r:R} (h:stepOp C (fun _ _ _ _ _=>none) n no id o s Kc=some r) :
  ∃s',(if dstOk n o then(match walked C s o with
   |some _=>none
   |none=>match effOf C s no id o with
    |some (c,e)=>if c then some (s.apply o.dst e) else none
    |none=>none) else none)=some s'∧Kc s'=some r:=by
 unfold stepOp at h
 cases hd:dstOk n o
 ·rw[hd] at h;cases h
 ·rw[hd] at h
  simp only[cond_true,if_true] at h ⊢
  split at h
  ·rename_i g args hw
   unfold inCall at h
   simp only at h
   split at h<;>cases h
  ·rename_i hw
   rw[hw]
   simp only
   split at h
   ·rename_i c e he
    rw[he]
    simp only
    cases c
    ·cases h
    ·exact⟨_,rfl,h⟩
   ·cases h
theorem stepD_ok (hC:CtxOk C) {fr:Fr} {K:Kinds} {s s':St} {a:Act} {w:World} {i id:Nat} {o:Oper} (hi:ops[i]?=some o) (h:stepD C n no ops id o s=some s') (hr:Rel fr n K s a w) {next:Act→World→Prop} {Q:Exit→Act→World→Prop}
  (hn:∀K' a' w',Rel fr n K' s' a' w'→next a' w'):wpOp C.P ops Q i next a w:=by
 have go:(if dstOk n o then(match walked C s o with
   |some _=>none
   |none=>match effOf C s no id o with
    |some (c,e)=>if c then some (s.apply o.dst e) else none
    |none=>none) else none)=some s'→o.wp C.P a w next Q:=fun hh=>by
  split at hh
  ·rename_i hd
   split at hh
   ·cases hh
   ·split at hh
    ·rename_i c e he
     split at hh
     ·rename_i hc
      cases hh
      exact effOf_ok hC he hc hr hd hn
     ·cases hh
    ·cases hh
  ·cases hh
 unfold wpOp
 simp only[hi]
 unfold stepD at h
 simp only at h
 split at h
 ·rename_i hg
  have hw:Region.wanted o (yielded ops a.tmps)=true:=by simp[Region.wanted,hg]
  rw[if_pos hw]
  exact .inl (go h)
 ·rename_i j want hg
  split at h
  ·rename_i d hs
   split at h
   ·rename_i b hb
    have hw:=wanted_of hr hg hs hb
    rw[hw]
    split at h
    ·rename_i hbw
     rw[if_pos hbw]
     exact .inl (go h)
    ·rename_i hbw
     rw[if_neg hbw]
     split at h
     ·rename_i hd
      cases h
      exact hn K _ w (hr.setO (dstOk_spec hd) RV_undef)
     ·cases h
   ·rename_i x hb
    have hw:=wanted_undef hr hg hs hb
    rw[hw]
    split at h
    ·rename_i hd
     cases h
     exact hn K _ w (hr.setO (dstOk_spec hd) RV_undef)
    ·cases h
   ·cases h
  ·cases h
def cls (o:Oper):Nat :=
 match o.op with
 | .alloc _ | .box _ _=>2
 | .load _ _ | .lookup ..=>1
 | .store _ _ _ | .mapUpdate ..=>3
 | .call c=>(match c.callee with
  | .builtin .len | .builtin .min | .builtin .max=>0
  | .builtin _=>3
  |_=>1)
 |_=>0
theorem partsAV_congr {s t:St} {pl:Nat→Option (Nat×Nat)}:∀(l:List (Nat×Operand)) (z:AV),(∀p∈l,opnd s p.2=opnd t p.2)→partsAV pl s z l=partsAV pl t z l
 |[],_,_=>rfl
 |(i,x)::l,z,h=>by
  have h1:=h (i,x) (by simp)
  simp only[partsAV]
  simp only at h1
  rw[h1]
  split
  ·split
   ·split
    ·exact partsAV_congr l _ (fun p hp=>h p (by simp[hp]))
    ·rfl
   ·rfl
  ·rfl
theorem partsSl_congr {s t:St} {e:Ty}:∀(l:List (Nat×Operand)) (z:List e.den),(∀p∈l,opnd s p.2=opnd t p.2)→partsSl e s z l=partsSl e t z l
 |[],_,_=>rfl
 |(i,x)::l,z,h=>by
  have h1:=h (i,x) (by simp)
  simp only[partsSl]
  simp only at h1
  rw[h1]
  split
  ·split
   ·exact partsSl_congr l _ (fun p hp=>h p (by simp[hp]))
   ·rfl
  ·rfl
theorem winPart_congr {s t:St} {l:List (Nat×Operand)} (h:∀p∈l,opnd s p.2=opnd t p.2):winPart s l=winPart t l:=by
 unfold winPart
 split
 ·rename_i x
  have:=h (0,x) (by simp)
  simp only at this
  rw[this]
 ·rfl
theorem map_congr {s t:St} {l:List Operand} (h:∀x∈l,opnd s x=opnd t x):l.map (opnd s)=l.map (opnd t):=List.map_congr_left h
theorem loadAV_congr {P:Program} {s t:St} {f:Nat→Bool} (h:∀i,heapAt s f i=heapAt t f i) (ty:TypeId) (x:AV):loadAV P s f ty x=loadAV P t f ty x:=by
 unfold loadAV
 split<;>simp only[h]
theorem opE_congr {P:Program} {eqs:List TypeId} {id:Nat} {o:Oper} {s t:St} (h:∀x∈o.op.operands.toList,opnd s x=opnd t x) (h3:cls o≤2) (hl:cls o=1→∀i,heapAt s (no.rd id) i=heapAt t (no.rd id) i) (hc:cls o=2→look id s.heap=look id t.heap) :
  opE P eqs s no id o=opE P eqs t no id o:=by
 unfold opE
 unfold cls at h3 hl hc
 cases ho:o.op<;>simp only[ho] at h h3 hl hc ⊢
 case move x =>
  have:=h x (by simp[Op.operands])
  cases x<;>simp only[this]
 case assign x =>
  have:=h x (by simp[Op.operands])
  cases x<;>simp only[this]
 case pick c x y =>
  have h1:=h c (by simp[Op.operands])
  have h2:=h x (by simp[Op.operands])
  have h3:=h y (by simp[Op.operands])
  simp only[h1,h2,h3]
 case alloc=>rw[hc trivial]
 case box _ x =>
  have h1:=h x (by simp[Op.operands])
  rw[hc trivial,h1]
 case build ty ps =>
  have h1:∀p∈ps.toList,opnd s p.2=opnd t p.2:=fun p hp=>h p.2 (by
   simp only[Op.operands,List.mem_map]
   exact⟨p,hp,rfl⟩)
  simp only[partsAV_congr ps.toList _ h1]
 case buildSlice ty m ps =>
  have h1:∀p∈ps.toList,opnd s p.2=opnd t p.2:=fun p hp=>h p.2 (by
   simp only[Op.operands,List.mem_map]
   exact⟨p,hp,rfl⟩)
  simp only[partsSl_congr ps.toList _ h1,winPart_congr h1]
 case load ty x =>
  have h1:=h x (by simp[Op.operands])
  rw[h1,loadAV_congr (hl trivial)]
 case store=>omega
 case mapUpdate=>omega
 case lookup ty x i ok =>
  rw[h x (by simp[Op.operands]),h i (by simp[Op.operands])]
  split
  ·rw[hl trivial]
  ·rfl
 case nilCheck x=>rw[h x (by simp[Op.operands])]
 case binOp _ _ x y _=>rw[h x (by simp[Op.operands]),h y (by simp[Op.operands])]
 case unOp _ _ x=>rw[h x (by simp[Op.operands])]
 case convert _ _ x=>rw[h x (by simp[Op.operands])]
 case makeFunc fn fs cs =>
  have h1:∀x∈cs.toList,opnd s x=opnd t x:=fun x hx=>h x (by
   simp only[Op.operands,Array.toList_append,List.mem_append]
   exact .inr hx)
  have h2:(cs.toList.all fun c=>single (opnd s c))=(cs.toList.all fun c=>single (opnd t c)):=by
   rw[Bool.eq_iff_iff,List.all_eq_true,List.all_eq_true]
   constructor
   ·intro hh x hx;rw[←h1 x hx];exact hh x hx
   ·intro hh x hx;rw[h1 x hx];exact hh x hx
  rw[h2,map_congr h1]
 case makeSlice _ x y =>
  have h1:=h y (by simp[Op.operands])
  simp only[h1]
 case slice _ x lo hi mx =>
  have h1:=h x (by simp[Op.operands])
  have h2:lo.map (opnd s)=lo.map (opnd t):=by
   cases lo with
   |none=>rfl
   |some l=>simp only[Option.map_some,h l (by simp[Op.operands])]
  have h3:hi.map (opnd s)=hi.map (opnd t):=by
   cases hi with
   |none=>rfl
   |some l=>simp only[Option.map_some,h l (by simp[Op.operands])]
  simp only[h1,h2,h3]
 case fieldAddr _ x _=>rw[h x (by simp[Op.operands])]
 case field _ x _=>rw[h x (by simp[Op.operands])]
 case indexAddr _ x y =>
  have h1:=h x (by simp[Op.operands])
  have h2:=h y (by simp[Op.operands])
  simp only[h1,h2]
 case index _ x y =>
  have h1:=h x (by simp[Op.operands])
  have h2:=h y (by simp[Op.operands])
  simp only[h1,h2]
 case extract x _=>rw[h x (by simp[Op.operands])]
 case call c =>
  obtain⟨cal,args,tys⟩:=c
  cases cal with
  |value f=>rfl
  |invoke=>rfl
  |builtin b =>
   have h1:∀x∈args.toList,opnd s x=opnd t x:=fun x hx=>h x (by
    simp only[Op.operands,Call.operands,Array.toList_append,List.mem_append]
    exact .inr hx)
   cases b<;>simp only[] at h3<;>try omega
   all_goals simp only[List.map_congr_left h1]
   split
   ·rename_i ty x _ hx
    rw[h1 x (by rw[hx];simp)]
   ·rfl
theorem calleeOf_congr {s t:St} {c:Call} (h:∀x∈c.operands.toList,opnd s x=opnd t x):calleeOf s c=calleeOf t c:=by
 obtain⟨cal,args,tys⟩:=c
 cases cal with
 |value f =>
  have h1:=h f (by simp[Call.operands])
  have h2:∀x∈args.toList,opnd s x=opnd t x:=fun x hx=>h x (by
   simp only[Call.operands,Array.toList_append,List.mem_append]
   exact .inr hx)
  unfold calleeOf
  simp only
  rw[h1,map_congr h2]
 |invoke=>rfl
 |builtin b=>rfl
theorem plainEff_congr {s t:St} {f:Nat→Bool} (h:∀i,heapAt s f i=heapAt t f i) (ps:Plain) (args:List AV):plainEff s f ps args=plainEff t f ps args:=by
 have h1:unwin s f=unwin t f:=by
  funext a
  unfold unwin
  split<;>simp only[h]
 have h2:showMem s f=showMem t f:=by
  funext a
  unfold showMem
  split
  ·simp only[h]
  ·rfl
 have h3:showArg s f=showArg t f:=by
  funext a
  unfold showArg
  rw[h2]
 have h4:showMap s f=showMap t f:=by
  funext a
  unfold showMap
  split
  ·simp only[h]
  ·rfl
 have h5:snapArgs s f=snapArgs t f:=by
  funext l
  unfold snapArgs
  split
  ·rw[h4]
  ·rfl
 unfold plainEff
 simp only[h,h1,h2,h3,h5]
theorem getEff_congr {P:Program} {s t:St} {f:Nat→Bool} (h:∀i,heapAt s f i=heapAt t f i) (p:Nat×TypeId) (args:List AV):getEff P s f p args=getEff P t f p args:=by
 unfold getEff
 split
 ·rw[loadAV_congr h]
 ·rfl
theorem effOf_congr {id:Nat} {o:Oper} {s t:St} (h:∀x∈o.op.operands.toList,opnd s x=opnd t x) (h3:cls o≤2) (hl:cls o=1→∀i,heapAt s (no.rd id) i=heapAt t (no.rd id) i) (hc:cls o=2→look id s.heap=look id t.heap) :
  effOf C s no id o=effOf C t no id o∧walked C s o=walked C t o:=by
 have hop:=opE_congr (P:=C.P) (eqs:=C.eqs) (id:=id) (no:=no) h h3 hl hc
 unfold effOf walked
 cases ho:o.op
 case call c =>
  have:=calleeOf_congr (s:=s) (t:=t) (c:=c) (fun x hx=>h x (by rw[ho];exact hx))
  simp only[this,hop]
  refine⟨?_,trivial⟩
  split
  ·rename_i g args hcal
   have h1:cls o=1:=by
    unfold cls
    rw[ho]
    unfold calleeOf at hcal
    simp only
    cases hc:c.callee with
    |value f=>rfl
    |invoke=>rfl
    |builtin b=>rw[hc] at hcal;cases hcal
   split
   ·split
    ·rw[getEff_congr (hl h1)]
    ·rw[plainEff_congr (hl h1)]
   ·rfl
  ·rfl
 all_goals exact⟨hop,rfl⟩
def deltaOf:Eff→Option (AV×Option AV)
 | .val a=>some (a,none)
 | .new _ c a=>some (a,some c)
 |_=>none
def applyX (id:Nat) (dst:Option Nat) (d:AV×Option AV) (s:St):St :=
 {s.setO dst d.1 with heap:=match d.2 with
  |some c=>put id c s.heap
  |none=>s.heap}
def stepX (C:Ctx) (n:Nat) (no:Lim) (ops:Array Oper) (id:Nat) (o:Oper) (s:St):Option (AV×Option AV) :=
 let go:Option (AV×Option AV):=if dstOk n o then
   (match walked C s o with
   |some _=>none
   |none=>match effOf C s no id o with
    |some (c,e)=>if c then deltaOf e else none
    |none=>none) else none
 match o.guard with
 |none=>go
 |some (j,want)=>match guardSlot ops j with
  |some d=>(match s.get d with
   |⟨.ty .bool,b⟩=>if b==want then go else if dstOk n o then some (.undef,none) else none
   |⟨.tup (.ty .unit),_⟩=>if dstOk n o then some (.undef,none) else none
   |_=>none)
  |none=>none
theorem eff_shape {s:St} {id:Nat} {o:Oper} (h3:cls o≤2) {c:Bool} {e:Eff} (h:effOf C s no id o=some (c,e)):(∃a,e=.val a)∨(cls o=2∧∃x a,e=.new id x a):=by
 have hop:∀{c:Bool} {e:Eff},opE C.P C.eqs s no id o=some (c,e)→(∃a,e=.val a)∨(cls o=2∧∃x a,e=.new id x a):=by
  intro c e h
  unfold cls at h3 ⊢
  unfold opE at h
  cases ho:o.op<;>simp only[ho] at h h3 ⊢
  case alloc =>
   split at h
   ·split at h
    ·cases h;exact .inr ⟨trivial,_,_,rfl⟩
    ·cases h
   ·cases h
  case box =>
   split at h
   ·cases h;exact .inr ⟨trivial,_,_,rfl⟩
   ·cases h
  case store=>omega
  case mapUpdate=>omega
  case call cl =>
   obtain⟨cal,args,tys⟩:=cl
   cases cal with
   |value f=>cases h
   |invoke=>cases h
   |builtin b =>
    cases b<;>simp only[] at h3 h<;>try omega
    all_goals left
    all_goals try (obtain⟨_,_,e'⟩:=Option.map_eq_some_iff.1 h;cases e';exact⟨_,rfl⟩)
    repeat' (split at h)
    all_goals first
     |(cases h;done)
     |(cases h;exact⟨_,rfl⟩)
  all_goals
   left
   repeat' (split at h)
   all_goals first
    |(cases h;done)
    |(cases h;exact⟨_,rfl⟩)
    |(obtain⟨_,_,e'⟩:=Option.map_eq_some_iff.1 h;cases e';exact⟨_,rfl⟩)
 unfold effOf at h
 split at h
 ·split at h
  ·split at h
   ·split at h
    ·obtain⟨_,_,e'⟩:=Option.map_eq_some_iff.1 h
     cases e'
     exact .inl ⟨_,rfl⟩
    ·obtain⟨_,_,e'⟩:=Option.map_eq_some_iff.1 h
     cases e'
     exact .inl ⟨_,rfl⟩
   ·cases h
  ·exact hop h
 ·exact hop h
def tmpOf:Operand→Option Nat
 | .tmp t=>some t
 |_=>none
def readsOf (ops:Array Oper) (o:Oper):List Nat :=
 o.op.operands.toList.filterMap tmpOf++(match o.guard with
  |some (j,_)=>(guardSlot ops j).toList
  |none=>[])
theorem opnd_agree {s t:St} {o:Oper} (h:∀x∈readsOf ops o,s.get x=t.get x):∀x∈o.op.operands.toList,opnd s x=opnd t x:=by
 intro x hx
 cases x with
 |tmp y=>exact h y (by unfold readsOf;exact List.mem_append.2 (.inl (List.mem_filterMap.2 ⟨_,hx,rfl⟩)))
 |_=>rfl
theorem stepX_congr {s t:St} {id:Nat} {o:Oper} (h:∀x∈readsOf ops o,s.get x=t.get x) (h3:cls o≤2) (hl:cls o=1→∀i,heapAt s (no.rd id) i=heapAt t (no.rd id) i) (hc:cls o=2→look id s.heap=look id t.heap) :
  stepX C n no ops id o s=stepX C n no ops id o t:=by
 obtain⟨h1,h2⟩:=effOf_congr (C:=C) (no:=no) (id:=id) (opnd_agree h) h3 hl hc
 unfold stepX
 simp only[h1,h2]
 split
 ·rfl
 ·rename_i j want hg
  split
  ·rename_i d hd
   have:s.get d=t.get d:=h d (by unfold readsOf;rw[hg];simp[hd])
   rw[this]
  ·rfl
theorem stepD_X {s:St} {id:Nat} {o:Oper} (h3:cls o≤2):stepD C n no ops id o s=(stepX C n no ops id o s).map fun d=>applyX id o.dst d s:=by
 have go:(if dstOk n o then(match walked C s o with
   |some _=>none
   |none=>match effOf C s no id o with
    |some (c,e)=>if c then some (s.apply o.dst e) else none
    |none=>none) else none)=(if dstOk n o then(match walked C s o with
   |some _=>none
   |none=>match effOf C s no id o with
    |some (c,e)=>if c then deltaOf e else none
    |none=>none) else none).map fun d=>applyX id o.dst d s:=by
  split
  ·split
   ·rfl
   ·split
    ·rename_i c e he
     cases c
     ·rfl
     ·simp only[if_true]
      rcases eff_shape h3 he with⟨a,rfl⟩ |⟨_,x,a,rfl⟩
      ·cases hd:o.dst<;>rfl
      ·cases hd:o.dst<;>rfl
    ·rfl
  ·rfl
 unfold stepD stepX
 simp only
 split
 ·exact go
 ·split
  ·split
   ·split
    ·exact go
    ·split
     ·cases hd:o.dst<;>rfl
     ·rfl
   ·split
    ·cases hd:o.dst<;>rfl
    ·rfl
   ·rfl
  ·rfl
theorem get_setO {s:St} {d:Option Nat} {v:AV} (t:Nat):(s.setO d v).get t=if d=some t then v else s.get t:=by
 cases d with
 |none=>simp[St.setO]
 |some d =>
  simp only[St.setO,St.set,St.get,look_put,Option.some.injEq]
  by_cases h:t=d
  ·subst h;simp
  ·rw[if_neg h,if_neg (fun e=>h e.symm)]
theorem setO_heap {s:St} {d:Option Nat} {v:AV}:(s.setO d v).heap=s.heap:=by cases d<;>rfl
theorem get_applyX {s:St} {id:Nat} {d:Option Nat} {x:AV×Option AV} (t:Nat):(applyX id d x s).get t=if d=some t then x.1 else s.get t:=get_setO t
theorem applyX_comm {s:St} {i j:Nat} {di dj:Option Nat} {x y:AV×Option AV} (hid:i≠j) (hd:∀a b,di=some a→dj=some b→a≠b):applyX i di x (applyX j dj y s)=applyX j dj y (applyX i di x s):=by
 obtain⟨x1,x2⟩:=x
 obtain⟨y1,y2⟩:=y
 have hh:∀(h:Heap),(match x2 with|some c=>put i c (match y2 with|some c=>put j c h |none=>h) |none=>(match y2 with|some c=>put j c h |none=>h)) =
   (match y2 with|some c=>put j c (match x2 with|some c=>put i c h |none=>h) |none=>(match x2 with|some c=>put i c h |none=>h)):=by
  intro h
  cases x2<;>cases y2<;>first|rfl |exact put_comm hid _ _ _
 cases di<;>cases dj<;>simp only[applyX,St.setO,St.set]
 ·congr 1;exact hh s.heap
 ·congr 1;exact hh s.heap
 ·congr 1;exact hh s.heap
 ·congr 1
  ·exact put_comm (hd _ _ rfl rfl) _ _ _
  ·exact hh s.heap
def callW (pl:FuncId→Bool) (o:Oper):Bool :=
 match o.op with
 | .call c=>(match c.callee with
  | .value (.func g)=>!pl g
  | .value _=>true
  |_=>false)
 |_=>false
def isMove (o:Oper):Bool :=
 o.guard.isNone&&match o.op with
  | .move (.tmp _)=>true
  |_=>false
def slotFree (ops:Array Oper) (a b:Oper):Bool :=
 match a.dst with
 |some d=>!(readsOf ops b).contains d
 |none=>true
def dstsApart (a b:Oper):Bool :=
 match a.dst,b.dst with
 |some x,some y=>x != y
 |_,_=>true
def isStore (o:Oper):Bool :=
 o.guard.isNone&&match o.op with
  | .store _ _ _=>true
  |_=>false
def apartB (pl:FuncId→Bool) (ops:Array Oper) (a b:Oper):Bool :=
 (!callW pl a&&!callW pl b)&&((slotFree ops a b&&(slotFree ops b a&&dstsApart a b))&&((Nat.ble (cls a) 2&&Nat.ble (cls b) 2)||((isMove a&&cls b==3)||(cls a==3&&isMove b))||((Nat.ble (cls a) 1&&isStore b)||(isStore a&&Nat.ble (cls b) 1))))
def Sep (no:Lim) (i j:Nat):Prop:=∀b,no.wr j b=true→no.rd i b=true
theorem slotFree_spec {a b:Oper} (h:slotFree ops a b=true):∀t∈readsOf ops b,a.dst≠some t:=by
 intro t ht e
 unfold slotFree at h
 rw[e] at h
 simp at h
 exact h ht
theorem dstsApart_spec {a b:Oper} (h:dstsApart a b=true):∀x y,a.dst=some x→b.dst=some y→x≠y:=by
 intro x y e1 e2
 unfold dstsApart at h
 rw[e1,e2] at h
 simpa using h
theorem stepX_new {s:St} {id:Nat} {o:Oper} (h3:cls o≤2) {d:AV×Option AV} (h:stepX C n no ops id o s=some d):d.2=none∨cls o=2:=by
 have go:(if dstOk n o then(match walked C s o with
   |some _=>none
   |none=>match effOf C s no id o with
    |some (c,e)=>if c then deltaOf e else none
    |none=>none) else none)=some d→d.2=none∨cls o=2:=by
  intro h
  split at h
  ·split at h
   ·cases h
   ·split at h
    ·rename_i c e he
     split at h
     ·rcases eff_shape h3 he with⟨a,rfl⟩ |⟨h2,x,a,rfl⟩
      ·cases h;exact .inl rfl
      ·exact .inr h2
     ·cases h
    ·cases h
  ·cases h
 unfold stepX at h
 simp only at h
 split at h
 ·exact go h
 ·split at h
  ·split at h
   ·split at h
    ·exact go h
    ·split at h
     ·cases h;exact .inl rfl
     ·cases h
   ·split at h
    ·cases h;exact .inl rfl
    ·cases h
   ·cases h
  ·cases h
theorem swap_plain {s s1 s2:St} {i j:Nat} {a b:Oper} (hij:i≠j) (ha:cls a≤2) (hb:cls b≤2) (f1:slotFree ops a b=true) (f2:slotFree ops b a=true) (f3:dstsApart a b=true)
  (na:cls a=2→∀k,no.rd k i=true) (nb:cls b=2→∀k,no.rd k j=true) (h1:stepD C n no ops i a s=some s1) (h2:stepD C n no ops j b s1=some s2) :
  ∃s1',stepD C n no ops j b s=some s1'∧stepD C n no ops i a s1'=some s2:=by
 rw[stepD_X ha] at h1
 rw[stepD_X hb] at h2
 obtain⟨x,hx,rfl⟩:=Option.map_eq_some_iff.1 h1
 obtain⟨y,hy,rfl⟩:=Option.map_eq_some_iff.1 h2
 have heapX:∀(t:St) (k:Nat) (o:Oper) (d:AV×Option AV),(d.2=none∨cls o=2)→(cls o=2→∀m,no.rd m k=true)→(∀m q,heapAt (applyX k o.dst d t) (no.rd m) q=heapAt t (no.rd m) q)∧∀m,m≠k→look m (applyX k o.dst d t).heap=look m t.heap:=by
  intro t k o d hd hk
  obtain⟨d1,d2⟩:=d
  cases d2 with
  |none=>exact⟨fun m q=>by simp only[heapAt,applyX],fun m _=>rfl⟩
  |some c =>
   have h2:cls o=2:=by rcases hd with h |h;cases h;exact h
   refine⟨fun m q=>?_,fun m hm=>?_⟩
   ·simp only[heapAt,applyX]
    by_cases hq:no.rd m q=true
    ·rw[if_pos hq,if_pos hq]
    ·rw[if_neg hq,if_neg hq,look_put,if_neg (fun e=>hq (by rw[e];exact hk h2 m))]
   ·simp only[applyX,look_put,if_neg hm]
 have hxn:=stepX_new ha hx
 have hyn:=stepX_new hb hy
 obtain⟨g1,g2⟩:=heapX s i a x hxn na
 have hy':stepX C n no ops j b s=some y:=by
  rw[←hy]
  refine stepX_congr (fun t ht=>?_) hb (fun _ q=>(g1 j q).symm) (fun _=>(g2 j (Ne.symm hij)).symm)
  rw[get_applyX,if_neg (slotFree_spec f1 t ht)]
 obtain⟨g3,g4⟩:=heapX s j b y hyn nb
 have hx':stepX C n no ops i a (applyX j b.dst y s)=some x:=by
  rw[←hx]
  refine stepX_congr (fun t ht=>?_) ha (fun _ q=>g3 i q) (fun _=>g4 i hij)
  rw[get_applyX,if_neg (slotFree_spec f2 t ht)]
 refine⟨applyX j b.dst y s,by rw[stepD_X hb,hy'];rfl,?_⟩
 rw[stepD_X ha,hx']
 simp only[Option.map_some]
 rw[applyX_comm hij (dstsApart_spec f3)]
theorem opE_congr3 {P:Program} {eqs:List TypeId} {id:Nat} {o:Oper} {s t:St} (h:∀x∈o.op.operands.toList,opnd s x=opnd t x) (h3:cls o=3) (hh:s.heap=t.heap):opE P eqs s no id o=opE P eqs t no id o:=by
 unfold opE
 unfold cls at h3
 cases ho:o.op<;>simp only[ho] at h h3⊢<;>try omega
 case store ty x y =>
  rw[h x (by simp[Op.operands]),h y (by simp[Op.operands])]
  unfold storeAV
  rw[hh]
 case mapUpdate ty x i v =>
  rw[h x (by simp[Op.operands]),h i (by simp[Op.operands]),h v (by simp[Op.operands]),hh]
 case call c =>
  obtain⟨cal,args,tys⟩:=c
  cases cal with
  |value f=>rfl
  |invoke=>rfl
  |builtin b =>
   cases b<;>simp only[] at h3⊢<;>try omega
   have h1:∀x∈args.toList,opnd s x=opnd t x:=fun x hx=>h x (by
    simp only[Op.operands,Call.operands,Array.toList_append,List.mem_append]
    exact .inr hx)
   split
   ·rename_i ty x y _ hx
    rw[h1 x (by rw[hx];simp),h1 y (by rw[hx];simp)]
   ·rfl
theorem effOf_congr3 {id:Nat} {o:Oper} {s t:St} (h:∀x∈o.op.operands.toList,opnd s x=opnd t x) (h3:cls o=3) (hh:s.heap=t.heap) :
  effOf C s no id o=effOf C t no id o∧walked C s o=walked C t o:=by
 have hop:=opE_congr3 (P:=C.P) (eqs:=C.eqs) (id:=id) (no:=no) h h3 hh
 unfold effOf walked
 cases ho:o.op
 case call c =>
  have:=calleeOf_congr (s:=s) (t:=t) (c:=c) (fun x hx=>h x (by rw[ho];exact hx))
  simp only[this,hop]
  refine⟨?_,trivial⟩
  split
  ·split
   ·split
    ·rw[getEff_congr (s:=s) (t:=t) (fun i=>by unfold heapAt;rw[hh])]
    ·rw[plainEff_congr (s:=s) (t:=t) (fun i=>by unfold heapAt;rw[hh])]
   ·rfl
  ·rfl
 all_goals exact⟨hop,rfl⟩
theorem eff_shape3 {s:St} {id:Nat} {o:Oper} (h3:cls o=3) {c:Bool} {e:Eff} (h:effOf C s no id o=some (c,e)):(∃i x,e=.put i x)∨(∃i x,e=.app i x):=by
 have hst:∀{t:TypeId} {x y:AV} {e:Eff},storeAV C.P s t x y=some e→∃i x,e=.put i x:=by
  intro t x y e h
  unfold storeAV at h
  repeat' (split at h)
  all_goals first
   |(cases h;done)
   |(obtain⟨_,_,e'⟩:=Option.map_eq_some_iff.1 h;cases e';exact⟨_,_,rfl⟩)
 have hop:∀{c:Bool} {e:Eff},opE C.P C.eqs s no id o=some (c,e)→(∃i x,e=.put i x)∨(∃i x,e=.app i x):=by
  intro c e h
  unfold cls at h3
  unfold opE at h
  cases ho:o.op<;>simp only[ho] at h h3<;>try omega
  case store ty x y =>
   split at h
   ·cases h
   ·split at h
    case isFalse=>cases h
    obtain⟨ef,h1,e'⟩:=Option.map_eq_some_iff.1 h
    cases e'
    exact .inl (hst h1)
  case mapUpdate =>
   repeat' (split at h)
   all_goals first
    |(cases h;done)
    |(cases h;exact .inl ⟨_,_,rfl⟩)
  case call cl =>
   obtain⟨cal,args,tys⟩:=cl
   cases cal with
   |value f=>cases h
   |invoke=>cases h
   |builtin b =>
    cases b<;>simp only[] at h3 h<;>try omega
    all_goals first
     |(cases h;done)
     |skip
    right
    repeat' (split at h)
    all_goals first
     |(cases h;done)
     |(cases h;exact⟨_,_,rfl⟩)
 unfold effOf at h
 split at h
 ·rename_i cl ho
  split at h
  ·rename_i g args hcal
   split at h
   ·exfalso
    unfold cls at h3
    rw[ho] at h3
    simp only at h3
    unfold calleeOf at hcal
    cases hc:cl.callee<;>rw[hc] at hcal h3<;>simp only at hcal h3<;>first|omega |cases hcal
   ·cases h
  ·exact hop h
 ·exact hop h
theorem write_move {s:St} {id:Nat} {o:Oper} (h3:cls o=3) {d x:Nat} (hd:d ∉ readsOf ops o) (hdd:o.dst≠some d) (hx:o.dst≠some x) :
  stepD C n no ops id o (s.set d (s.get x))=(stepD C n no ops id o s).map fun t=>t.set d (t.get x):=by
 have hag:∀t∈readsOf ops o,(s.set d (s.get x)).get t=s.get t:=fun t ht=>by
  have:=get_setO (s:=s) (d:=some d) (v:=s.get x) t
  simp only[St.setO] at this
  rw[this,if_neg (fun e=>by cases e;exact hd ht)]
 obtain⟨h1,h2⟩:=effOf_congr3 (C:=C) (no:=no) (id:=id) (opnd_agree hag) h3 (show(s.set d (s.get x)).heap=s.heap from rfl)
 have skip:∀v,(s.set d (s.get x)).setO o.dst v=(s.setO o.dst v).set d ((s.setO o.dst v).get x):=fun v=>by
  rw[get_setO,if_neg hx]
  cases ho:o.dst with
  |none=>rfl
  |some k =>
   simp only[St.setO,St.set]
   rw[put_comm (fun e=>hdd (by rw[ho,e]))]
 have app:∀e,((∃i x,e=.put i x)∨(∃i x,e=.app i x))→(s.set d (s.get x)).apply o.dst e=(s.apply o.dst e).set d ((s.apply o.dst e).get x):=by
  rintro e (⟨i,c,rfl⟩ |⟨i,c,rfl⟩)
  ·have:=skip .top
   simp only[St.apply]
   have hg:({(s.setO o.dst .top) with heap:=put i c s.heap}:St).get x=(s.setO o.dst .top).get x:=rfl
   rw[hg]
   have e1:({((s.set d (s.get x)).setO o.dst .top) with heap:=put i c (s.set d (s.get x)).heap}:St)={((s.setO o.dst .top).set d ((s.setO o.dst .top).get x)) with heap:=put i c s.heap}:=by
    rw[this]
    rfl
   exact e1
  ·simp only[St.apply]
   rw[get_setO,if_neg hx]
   have hgx:(St.get {ents:=mapV (·.ren (strike i) some) s.ents,heap:=mapV (·.ren (strike i) some) s.heap,next:=s.next} x)=(s.get x).ren (strike i) some:=by
    simp only[St.get,look_mapV]
    cases look x s.ents<;>rfl
   rw[hgx]
   have e1:(s.set d (s.get x)).ents=put d (s.get x) s.ents:=rfl
   have e2:(s.set d (s.get x)).heap=s.heap:=rfl
   have e3:(s.set d (s.get x)).next=s.next:=rfl
   rw[e1,e2,e3,mapV_put]
   cases ho:o.dst with
   |none=>rfl
   |some k =>
    simp only[St.setO,St.set]
    rw[put_comm (fun e=>hdd (by rw[ho,e]))]
 have go:(if dstOk n o then(match walked C (s.set d (s.get x)) o with
   |some _=>none
   |none=>match effOf C (s.set d (s.get x)) no id o with
    |some (c,e)=>if c then some ((s.set d (s.get x)).apply o.dst e) else none
    |none=>none) else none)=(if dstOk n o then(match walked C s o with
   |some _=>none
   |none=>match effOf C s no id o with
    |some (c,e)=>if c then some (s.apply o.dst e) else none
    |none=>none) else none).map fun t=>t.set d (t.get x):=by
  rw[h1,h2]
  split
  ·split
   ·rfl
   ·split
    ·rename_i c e he
     cases c
     ·rfl
     ·simp only[if_true,Option.map_some]
      rw[app e (eff_shape3 h3 he)]
    ·rfl
  ·rfl
 unfold stepD
 simp only
 split
 ·exact go
 ·rename_i j want hg
  split
  ·rename_i k hk
   have hgk:(s.set d (s.get x)).get k=s.get k:=hag k (by unfold readsOf;rw[hg];simp[hk])
   rw[hgk]
   split
   ·split
    ·exact go
    ·split
     ·simp only[Option.map_some]
      rw[skip]
     ·rfl
   ·split
    ·simp only[Option.map_some]
     rw[skip]
    ·rfl
   ·rfl
  ·rfl
theorem move_step {id:Nat} {o:Oper} (hm:isMove o=true):∃x,x∈readsOf ops o∧∀s,stepD C n no ops id o s=if dstOk n o then some (s.setO o.dst (s.get x)) else none:=by
 unfold isMove at hm
 simp only[Bool.and_eq_true,Option.isNone_iff_eq_none] at hm
 obtain⟨hg,hm⟩:=hm
 split at hm
 ·rename_i x ho
  refine⟨x,?_,fun s=>?_⟩
  ·unfold readsOf
   rw[ho]
   simp[Op.operands,tmpOf]
  ·unfold stepD
   simp only[hg,walked,effOf,ho,opE]
   split
   ·rfl
   ·rfl
 ·cases hm
theorem store_spec {s s':St} {id:Nat} {o:Oper} (hst:isStore o=true) (h:stepD C n no ops id o s=some s'):o.guard=none∧dstOk n o=true∧walked C s o=none∧cls o=3∧∃b c,effOf C s no id o=some (true,.put b c)∧no.wr id b=true∧s'=s.apply o.dst (.put b c):=by
 unfold isStore at hst
 simp only[Bool.and_eq_true,Option.isNone_iff_eq_none] at hst
 obtain⟨hg,hop⟩:=hst
 split at hop
 case h_2=>cases hop
 rename_i ty x y ho
 have hw:walked C s o=none:=by unfold walked;rw[ho]
 have hc3:cls o=3:=by unfold cls;rw[ho]
 unfold stepD at h
 simp only[hg,hw] at h
 split at h
 case isFalse=>cases h
 rename_i hd
 refine⟨hg,hd,hw,hc3,?_⟩
 split at h
 case h_2=>cases h
 rename_i c e he
 split at h
 case isFalse=>cases h
 rename_i hc
 cases h
 have he2:opE C.P C.eqs s no id o=some (c,e):=by
  unfold effOf at he
  simp only[ho] at he
  exact he
 unfold opE at he2
 simp only[ho] at he2
 split at he2
 ·cases he2
 ·split at he2
  ·rename_i hwr
   obtain⟨e',hs,h3⟩:=Option.map_eq_some_iff.1 he2
   cases h3
   unfold storeAV at hs
   split at hs
   ·rename_i b off v hx
    rw[hx] at hwr
    split at hs
    ·split at hs
     ·obtain⟨z,_,h5⟩:=Option.map_eq_some_iff.1 hs
      cases h5
      exact⟨b,z,he,hwr,rfl⟩
     ·cases hs
    ·cases hs
   ·rename_i b off m e' k hx
    rw[hx] at hwr
    split at hs
    ·split at hs
     ·split at hs
      ·split at hs
       ·obtain⟨z,_,h5⟩:=Option.map_eq_some_iff.1 hs
        cases h5
        exact⟨b,z,he,hwr,rfl⟩
       ·cases hs
      ·cases hs
     ·cases hs
    ·cases hs
   ·rename_i b e' o' k hx
    rw[hx] at hwr
    split at hs
    ·split at hs
     ·split at hs
      ·obtain⟨z,_,h5⟩:=Option.map_eq_some_iff.1 hs
       cases h5
       exact⟨b,_,he,hwr,rfl⟩
      ·cases hs
     ·cases hs
    ·cases hs
   ·cases hs
  ·cases he2
theorem stepD_store {s:St} {id:Nat} {o:Oper} (hg:o.guard=none) (hd:dstOk n o=true) (hw:walked C s o=none) {b:Nat} {c:AV} (he:effOf C s no id o=some (true,.put b c)):stepD C n no ops id o s=some (s.apply o.dst (.put b c)):=by
 unfold stepD
 simp only[hg,hw,he,hd,if_true]
theorem walked_store {s:St} {o:Oper} (hst:isStore o=true):walked C s o=none:=by
 unfold isStore at hst
 simp only[Bool.and_eq_true] at hst
 obtain⟨_,hop⟩:=hst
 split at hop
 ·rename_i ho
  unfold walked
  rw[ho]
 ·cases hop
theorem applyX_none {id:Nat} {d:Option Nat} {v:AV} {s:St}:applyX id d (v,none) s=s.setO d v:=by
 cases d<;>rfl
theorem put_setO {s:St} {da db:Option Nat} {v:AV} {b:Nat} {c:AV} (h:∀x y,da=some x→db=some y→x≠y):(s.setO da v).apply db (.put b c)=(s.apply db (.put b c)).setO da v:=by
 cases da with
 |none=>rfl
 |some x=>cases db with
  |none=>rfl
  |some y =>
   have hne:=h x y rfl rfl
   show({ents:=put y .top (put x v s.ents),heap:=put b c s.heap,next:=s.next}:St)={ents:=put x v (put y .top s.ents),heap:=put b c s.heap,next:=s.next}
   rw[put_comm (Ne.symm hne)]
theorem stepX_plain {s:St} {id:Nat} {o:Oper} (h1:cls o≤1) {x:AV×Option AV} (h:stepX C n no ops id o s=some x):x.2=none:=by
 rcases stepX_new (show cls o≤2 by omega) h with h |h
 ·exact h
 ·omega
theorem heapAt_put {s:St} {f:Nat→Bool} {b:Nat} {c:AV} {d:Option Nat} (hb:f b=true) (q:Nat):heapAt (s.apply d (.put b c)) f q=heapAt s f q:=by
 unfold heapAt
 by_cases hq:f q=true
 ·rw[if_pos hq,if_pos hq]
 ·rw[if_neg hq,if_neg hq]
  have:(s.apply d (.put b c)).heap=put b c s.heap:=by cases d<;>rfl
  rw[this,look_put,if_neg (fun e=>hq (by rw[e];exact hb))]
theorem get_put {s:St} {b:Nat} {c:AV} {d:Option Nat} (t:Nat) (h:d≠some t):(s.apply d (.put b c)).get t=s.get t:=by
 have:(s.apply d (.put b c)).get t=(s.setO d .top).get t:=rfl
 rw[this,get_setO,if_neg h]
theorem swap_store {s s1 s2:St} {i j:Nat} {a b:Oper} (ha:cls a≤1) (hb:isStore b=true) (f1:slotFree ops a b=true) (f2:slotFree ops b a=true) (f3:dstsApart a b=true) (hsep:Sep no i j)
  (h1:stepD C n no ops i a s=some s1) (h2:stepD C n no ops j b s1=some s2) :
  ∃s1',stepD C n no ops j b s=some s1'∧stepD C n no ops i a s1'=some s2:=by
 rw[stepD_X (by omega)] at h1
 obtain⟨x,hx,rfl⟩:=Option.map_eq_some_iff.1 h1
 obtain⟨xv,xo⟩:=x
 have hxo:xo=none:=stepX_plain ha hx
 subst hxo
 rw[applyX_none] at h2
 obtain⟨hg,hd,_,hc3,bid,c,he,hwr,rfl⟩:=store_spec hb h2
 have hag:∀t∈readsOf ops b,(s.setO a.dst xv).get t=s.get t:=fun t ht=>by
  rw[get_setO,if_neg (slotFree_spec f1 t ht)]
 have hheap:(s.setO a.dst xv).heap=s.heap:=setO_heap
 obtain⟨e1,_⟩:=effOf_congr3 (C:=C) (no:=no) (id:=j) (opnd_agree hag) hc3 hheap
 rw[he] at e1
 refine⟨s.apply b.dst (.put bid c),stepD_store hg hd (walked_store hb) e1.symm,?_⟩
 have hx':stepX C n no ops i a (s.apply b.dst (.put bid c))=some (xv,none):=by
  rw[←hx]
  refine stepX_congr (fun t ht=>get_put t (slotFree_spec f2 t ht)) (by omega) (fun _ q=>heapAt_put (hsep bid hwr) q) (fun hc=>by omega)
 rw[stepD_X (by omega),hx']
 simp only[Option.map_some]
 rw[applyX_none,put_setO (dstsApart_spec f3)]
theorem store_swap {s s1 s2:St} {i j:Nat} {a b:Oper} (ha:isStore a=true) (hb:cls b≤1) (f1:slotFree ops a b=true) (f2:slotFree ops b a=true) (f3:dstsApart a b=true) (hsep:Sep no j i)
  (h1:stepD C n no ops i a s=some s1) (h2:stepD C n no ops j b s1=some s2) :
  ∃s1',stepD C n no ops j b s=some s1'∧stepD C n no ops i a s1'=some s2:=by
 obtain⟨hg,hd,_,hc3,bid,c,he,hwr,rfl⟩:=store_spec ha h1
 rw[stepD_X (by omega)] at h2
 obtain⟨y,hy,rfl⟩:=Option.map_eq_some_iff.1 h2
 obtain⟨yv,yo⟩:=y
 have hyo:yo=none:=stepX_plain hb hy
 subst hyo
 have hy':stepX C n no ops j b s=some (yv,none):=by
  rw[←hy]
  refine stepX_congr (fun t ht=>(get_put t (slotFree_spec f1 t ht)).symm) (by omega) (fun _ q=>(heapAt_put (hsep bid hwr) q).symm) (fun hc=>by omega)
 refine⟨s.setO b.dst yv,by rw[stepD_X (by omega),hy'];simp only[Option.map_some,applyX_none],?_⟩
 have hag:∀t∈readsOf ops a,(s.setO b.dst yv).get t=s.get t:=fun t ht=>by
  rw[get_setO,if_neg (slotFree_spec f2 t ht)]
 have hheap:(s.setO b.dst yv).heap=s.heap:=setO_heap
 obtain⟨e1,_⟩:=effOf_congr3 (C:=C) (no:=no) (id:=i) (opnd_agree hag) hc3 hheap
 rw[stepD_store hg hd (walked_store ha) (e1.trans he),applyX_none]
 exact congrArg some (put_setO fun x y hx hy=>(dstsApart_spec f3 y x hy hx).symm)
theorem swap_any {s s1 s2:St} {i j:Nat} {a b:Oper} (hij:i≠j) {pl:FuncId→Bool} (hap:apartB pl ops a b=true)
  (na:cls a=2→∀k,no.rd k i=true) (nb:cls b=2→∀k,no.rd k j=true) (sa:isStore b=true→Sep no i j) (sb:isStore a=true→Sep no j i) (h1:stepD C n no ops i a s=some s1) (h2:stepD C n no ops j b s1=some s2) :
  ∃s1',stepD C n no ops j b s=some s1'∧stepD C n no ops i a s1'=some s2:=by
 unfold apartB at hap
 simp only[Bool.and_eq_true,Bool.or_eq_true,beq_iff_eq,Nat.ble_eq] at hap
 obtain⟨_,⟨f1,f2,f3⟩,hc⟩:=hap
 rcases hc with(⟨ha,hb⟩ |⟨hm,hb⟩ |⟨ha,hm⟩) |⟨ha,hb⟩ |⟨ha,hb⟩
 ·exact swap_plain hij ha hb f1 f2 f3 na nb h1 h2
 · -- a move, then a write
  obtain⟨x,hx,hs⟩:=move_step (C:=C) (n:=n) (no:=no) (ops:=ops) (id:=i) hm
  rw[hs] at h1
  split at h1
  ·rename_i hd
   cases h1
   cases hda:a.dst with
   |none =>
    rw[hda] at h2
    refine⟨s2,h2,?_⟩
    rw[hs,if_pos hd,hda]
    rfl
   |some d =>
    rw[hda] at h2
    simp only[St.setO] at h2
    rw[write_move hb (fun hr=>slotFree_spec f1 d hr hda) (fun e=>dstsApart_spec f3 d d hda e rfl) (slotFree_spec f2 x hx)] at h2
    obtain⟨t,ht,rfl⟩:=Option.map_eq_some_iff.1 h2
    refine⟨t,ht,?_⟩
    rw[hs,if_pos hd,hda]
    rfl
  ·cases h1
 · -- a write, then a move
  obtain⟨x,hx,hs⟩:=move_step (C:=C) (n:=n) (no:=no) (ops:=ops) (id:=j) hm
  rw[hs] at h2
  split at h2
  ·rename_i hd
   cases h2
   cases hdb:b.dst with
   |none =>
    refine⟨s,by rw[hs,if_pos hd,hdb];rfl,?_⟩
    exact h1
   |some d =>
    refine⟨s.set d (s.get x),by rw[hs,if_pos hd,hdb];rfl,?_⟩
    rw[write_move ha (fun hr=>slotFree_spec f2 d hr hdb) (fun e=>dstsApart_spec f3 d d e hdb rfl) (slotFree_spec f1 x hx),h1]
    rfl
  ·cases h2
 ·exact swap_store ha hb f1 f2 f3 (sa hb) h1 h2
 ·exact store_swap ha hb f1 f2 f3 (sb ha) h1 h2
def rowOk (pl:FuncId→Bool) (ops:Array Oper) (mask:Nat) (o:Oper):List Oper→Nat→Bool
 |[],_=>true
 |p::l,i=>(mask.testBit i||apartB pl ops p o)&&rowOk pl ops mask o l (i+1)
def allOk (pl:FuncId→Bool) (ops:Array Oper) (anc:List Nat) (seen:List Oper):List Oper→Nat→Bool
 |[],_=>true
 |o::l,j=>((edges o).all fun e=>Nat.blt e j)&&(rowOk pl ops (anc.getD j 0) o seen 0&&allOk pl ops anc (seen++[o]) l (j+1))
def drawOk (pl:FuncId→Bool) (ops:Array Oper):Bool:=allOk pl ops (ancs ops.toList []) [] ops.toList 0
theorem maskOf_spec {acc:List Nat} {i:Nat}:∀(l:List Nat),(maskOf acc l).testBit i=true→∃e∈l,i=e∨(acc.getD e 0).testBit i=true
 |[],h=>by simp[maskOf] at h
 |e::l,h=>by
  simp only[maskOf,Nat.testBit_or,Bool.or_eq_true] at h
  rcases h with(h |h) |h
  ·refine⟨e,by simp,.inl ?_⟩
   rw[Nat.shiftLeft_eq,Nat.one_mul,Nat.testBit_two_pow] at h
   exact(of_decide_eq_true h).symm
  ·exact⟨e,by simp,.inr h⟩
  ·obtain⟨e',h1,h2⟩:=maskOf_spec l h
   exact⟨e',by simp[h1],h2⟩
theorem ancs_pre:∀(l:List Oper) (acc:List Nat) (j:Nat),j<acc.length→(ancs l acc).getD j 0=acc.getD j 0
 |[],_,_,_=>rfl
 |o::l,acc,j,h=>by
  simp only[ancs]
  rw[ancs_pre l _ j (by simp;omega)]
  simp[List.getD_eq_getElem?_getD,List.getElem?_append_left h]
theorem ancs_spec:∀(l:List Oper) (acc:List Nat) (k:Nat) (o:Oper),l[k]?=some o→(∀k' o',l[k']?=some o'→∀e∈edges o',e<acc.length+k') →
  ∀i,((ancs l acc).getD (acc.length+k) 0).testBit i=true→∃e∈edges o,i=e∨((ancs l acc).getD e 0).testBit i=true
 |[],_,k,_,h,_,_,_=>by simp at h
 |o::l,acc,0,o',h,hlt,i,hi=>by
  simp at h
  subst h
  simp only[ancs] at hi ⊢
  have hpre:=ancs_pre l (acc++[maskOf acc (edges o)]) acc.length (by simp)
  rw[Nat.add_zero,hpre] at hi
  simp at hi
  obtain⟨e,h1,h2⟩:=maskOf_spec _ hi
  refine⟨e,h1,?_⟩
  rcases h2 with h2 |h2
  ·exact .inl h2
  ·have hel:e<acc.length:=by simpa using hlt 0 o rfl e h1
   rw[ancs_pre l _ e (by simp;omega)]
   refine .inr ?_
   rw[List.getD_eq_getElem?_getD,List.getElem?_append_left hel,←List.getD_eq_getElem?_getD]
   exact h2
 |o::l,acc,k+1,o',h,hlt,i,hi=>by
  simp only[ancs] at hi ⊢
  have:=ancs_spec l (acc++[maskOf acc (edges o)]) k o' (by simpa using h) (fun k' o'' hk' e he=>by
   have:=hlt (k'+1) o'' (by simpa using hk') e he
   simp
   omega) i (by
   rw[List.length_append]
   simp only[List.length_singleton]
   rw[show acc.length+1+k=acc.length+(k+1) by omega]
   exact hi)
  exact this
theorem rowOk_spec {pl:FuncId→Bool} {mask:Nat} {o:Oper}:∀(l:List Oper) (k i:Nat) (p:Oper),rowOk pl ops mask o l k=true→l[i]?=some p→mask.testBit (k+i)=true∨apartB pl ops p o=true
 |[],_,_,_,_,h=>by simp at h
 |q::l,k,0,p,h,hp=>by
  simp at hp
  subst hp
  simp only[rowOk,Bool.and_eq_true,Bool.or_eq_true] at h
  exact h.1
 |q::l,k,i+1,p,h,hp=>by
  simp only[rowOk,Bool.and_eq_true] at h
  have:=rowOk_spec l (k+1) i p h.2 (by simpa using hp)
  rwa [show k+1+i=k+(i+1) by omega] at this
theorem allOk_spec {pl:FuncId→Bool} {anc:List Nat}:∀(l seen:List Oper) (k:Nat) (o:Oper),allOk pl ops anc seen l seen.length=true→l[k]?=some o →
  (∀e∈edges o,e<seen.length+k)∧∀i p,i<seen.length+k→(seen++l)[i]?=some p→(anc.getD (seen.length+k) 0).testBit i=true∨apartB pl ops p o=true
 |[],_,_,_,_,h=>by simp at h
 |q::l,seen,0,o,h,ho=>by
  simp at ho
  subst ho
  simp only[allOk,Bool.and_eq_true,List.all_eq_true] at h
  obtain⟨h1,h2,_⟩:=h
  refine⟨fun e he=>by have:=h1 e he;rwa [Nat.blt_eq] at this,fun i p hi hp=>?_⟩
  rw[Nat.add_zero] at hi
  rw[List.getElem?_append_left hi] at hp
  have:=rowOk_spec seen 0 i p h2 hp
  rwa [Nat.zero_add] at this
 |q::l,seen,k+1,o,h,ho=>by
  simp only[allOk,Bool.and_eq_true] at h
  obtain⟨_,_,h3⟩:=h
  have:=allOk_spec l (seen++[q]) k o (by rw[List.length_append];exact h3) (by simpa using ho)
  rw[List.length_append,List.length_singleton,List.append_assoc,List.singleton_append,show seen.length+1+k=seen.length+(k+1) by omega] at this
  exact this
def Down (ops:Array Oper) (listed:Array Bool):Prop:=∀j o,ops[j]?=some o→listed.getD j false=true→∀e∈edges o,listed.getD e false=true
theorem anc_listed {pl:FuncId→Bool} (hd:drawOk pl ops=true) {listed:Array Bool} (hdown:Down ops listed):∀(j:Nat) (o:Oper),ops[j]?=some o→(∀e∈edges o,listed.getD e false=true)→∀i,((ancs ops.toList []).getD j 0).testBit i=true→listed.getD i false=true:=by
 intro j
 induction j using Nat.strongRecOn with
 |_ j ih =>
  intro o ho hall i hi
  have hl:∀k' o',ops.toList[k']?=some o'→∀e∈edges o',e<([]:List Nat).length+k':=fun k' o' hk' e he=>by
   have:=(allOk_spec ops.toList [] k' o' hd hk').1 e he
   simpa using this
  have:=ancs_spec ops.toList [] j o (by simpa using ho) hl i (by simpa using hi)
  obtain⟨e,h1,h2⟩:=this
  rcases h2 with rfl |h2
  ·exact hall _ h1
  ·have hej:e<j:=by simpa using hl j o (by simpa using ho) e h1
   have hes:e<ops.size:=Nat.lt_trans hej (Array.getElem?_eq_some_iff.1 ho).1
   exact ih e hej ops[e] (Array.getElem?_eq_getElem hes) (hdown e _ (Array.getElem?_eq_getElem hes) (hall e h1)) i h2
def left (listed:Array Bool):List Oper→Nat→Nat→List (Nat×Nat×Oper)
 |[],_,_=>[]
 |o::l,j,id=>if listed.getD j true then left listed l (j+1) (id+16) else(j,id,o)::left listed l (j+1) (id+16)
def strip (l:List (Nat×Nat×Oper)):List (Nat×Oper):=l.map fun x=>(x.2.1,x.2.2)
theorem left_none:∀(l:List Oper) (j id:Nat) (listed:Array Bool),(∀k,k<l.length→listed.getD (j+k) true=false)→strip (left listed l j id)=withIds l id
 |[],_,_,_,_=>rfl
 |o::l,j,id,listed,h=>by
  have h0:=h 0 (by simp)
  rw[Nat.add_zero] at h0
  simp only[left,h0,Bool.false_eq_true,if_false,strip,List.map_cons,withIds]
  have:=left_none l (j+1) (id+16) listed (fun k hk=>by rw[show j+1+k=j+(k+1) by omega];exact h (k+1) (by simp;omega))
  unfold strip at this
  rw[this]
theorem left_mem {listed:Array Bool}:∀(l:List Oper) (j id:Nat) (x:Nat×Nat×Oper),x∈left listed l j id→j≤x.1∧l[x.1-j]?=some x.2.2∧x.2.1=id+16*(x.1-j)∧listed.getD x.1 true=false
 |[],_,_,_,h=>by cases h
 |o::l,j,id,x,h=>by
  simp only[left] at h
  have step:x∈left listed l (j+1) (id+16)→j≤x.1∧(o::l)[x.1-j]?=some x.2.2∧x.2.1=id+16*(x.1-j)∧listed.getD x.1 true=false:=fun h=>by
   obtain⟨h1,h2,h3,h4⟩:=left_mem l (j+1) (id+16) x h
   refine⟨by omega,?_,by omega,h4⟩
   rw[show x.1-j=(x.1-(j+1))+1 by omega]
   simpa using h2
  split at h
  ·exact step h
  ·rename_i hn
   rcases List.mem_cons.1 h with rfl |h
   ·exact⟨Nat.le_refl _,by simp,by simp,by simpa using hn⟩
   ·exact step h
theorem left_take {listed:Array Bool} {i:Nat}:∀(l:List Oper) (j id:Nat) (o:Oper),l[i]?=some o→listed.getD (j+i) true=false →
  ∃A B,left listed l j id=A++(j+i,id+16*i,o)::B∧left (listed.setIfInBounds (j+i) true) l j id=A++B∧(∀x∈A,x.1<j+i):=by
 intro l
 induction l generalizing i with
 |nil=>intro j id o h;simp at h
 |cons q l ih =>
  intro j id o h hl
  cases i with
  |zero =>
   simp at h
   subst h
   rw[Nat.add_zero] at hl ⊢
   have hlt:j<listed.size:=by
    rcases Nat.lt_or_ge j listed.size with h' |h'
    ·exact h'
    ·rw[Array.getD_eq_getD_getElem?,Array.getElem?_eq_none h'] at hl;cases hl
   refine⟨[],left listed l (j+1) (id+16),?_,?_,fun x hx=>by cases hx⟩
   ·simp only[left,hl,Bool.false_eq_true,if_false,List.nil_append]
    rfl
   ·simp only[left]
    have:(listed.setIfInBounds j true).getD j true=true:=by
     rw[Array.getD_eq_getD_getElem?,Array.getElem?_setIfInBounds]
     simp[hlt]
    rw[this]
    simp only[if_true,List.nil_append]
    have key:∀(l:List Oper) (k id:Nat),j<k→left (listed.setIfInBounds j true) l k id=left listed l k id:=by
     intro l
     induction l with
     |nil=>intros;rfl
     |cons q l ih2 =>
      intro k id hk
      simp only[left]
      rw[getD_set_ne true (by omega),ih2 (k+1) (id+16) (by omega)]
    exact key l (j+1) (id+16) (by omega)
  |succ i =>
   obtain⟨A,B,h1,h2,h3⟩:=ih (i:=i) (j+1) (id+16) o (by simpa using h) (by rw[show j+1+i=j+(i+1) by omega];exact hl)
   rw[show j+1+i=j+(i+1) by omega,show id+16+16*i=id+16*(i+1) by omega] at h1
   rw[show j+1+i=j+(i+1) by omega] at h2 h3
   simp only[left]
   rw[getD_set_ne true (show j+(i+1)≠j by omega)]
   split
   ·exact⟨A,B,h1,h2,h3⟩
   ·rename_i hn
    refine⟨(j,id,q)::A,B,by rw[h1];rfl,by rw[h2];rfl,fun x hx=>?_⟩
    rcases List.mem_cons.1 hx with rfl |hx
    ·exact Nat.lt_add_of_pos_right (Nat.succ_pos i)
    ·exact h3 x hx
def StepW (C:Ctx) (n:Nat) (ops:Array Oper) (i:Nat) (s:St) (X:St→Prop):Prop :=
 ∀(fr:Fr) (K:Kinds) (a:Act) (w:World),Rel fr n K s a w→∀(next:Act→World→Prop) (Q:Exit→Act→World→Prop),(∀s' K' a' w',Rel fr n K' s' a' w'→X s'→next a' w')→wpOp C.P ops Q i next a w
abbrev Ctx.isPlain (C:Ctx) (g:FuncId):Bool:=(C.plain g).isSome
def foldP (C:Ctx) (n:Nat) (no:Lim) (ops:Array Oper) (base:Nat) (G:St→Prop):List (Nat×Oper)→St→Prop
 |[],s=>G s
 |(id,o)::l,s=>(callW C.isPlain o=true→StepW C n ops ((id-base) / 16) s (foldP C n no ops base G l)) ∧
   (callW C.isPlain o=false→∃s',stepD C n no ops id o s=some s'∧foldP C n no ops base G l s')
theorem fold_front {base:Nat} {G:St→Prop} {i id:Nat} {o:Oper} (hno:cls o=2→∀k,no.rd k id=true) (hw:callW C.isPlain o=false):∀(A B:List (Nat×Oper)) (s:St),(∀x∈A,x.1≠id∧apartB C.isPlain ops x.2 o=true∧(cls x.2=2→∀k,no.rd k x.1=true)∧(isStore o=true→Sep no x.1 id)∧(isStore x.2=true→Sep no id x.1)) →
  foldP C n no ops base G (A++(id,o)::B) s→∃s1,stepD C n no ops id o s=some s1∧foldP C n no ops base G (A++B) s1
 |[],B,s,_,h=>by
  simp only[List.nil_append,foldP] at h
  exact h.2 hw
 |(k,p)::A,B,s,hA,h=>by
  obtain⟨h1,h2,h3,h4,h5⟩:=hA (k,p) (by simp)
  have hp:callW C.isPlain p=false:=by
   have:=h2
   unfold apartB at this
   simp only[Bool.and_eq_true,Bool.not_eq_true'] at this
   exact this.1.1
  simp only[List.cons_append,foldP] at h
  obtain⟨s0,e0,h⟩:=h.2 hp
  obtain⟨s1,e1,e2⟩:=fold_front (i:=i) hno hw A B s0 (fun x hx=>hA x (by simp[hx])) h
  obtain⟨s1',f1,f2⟩:=swap_any h1 h2 h3 hno h4 h5 e0 e1
  refine⟨s1',f1,?_⟩
  simp only[List.cons_append,foldP]
  exact⟨(fun e=>by rw[hp] at e;cases e),fun _=>⟨s1,f2,e2⟩⟩
theorem walked_none {s:St} {o:Oper} (h:callW C.isPlain o=false):walked C s o=none:=by
 unfold callW at h
 unfold walked
 split
 ·rename_i c ho
  rw[ho] at h
  simp only at h
  unfold calleeOf
  split at h
  ·rename_i g hc
   simp only[hc,opnd]
   simp only[Bool.not_eq_false'] at h
   obtain⟨ps,hps⟩:=Option.isSome_iff_exists.1 h
   split
   ·rename_i g' args hg
    have:unpack (.ty .unit) 12=true:=rfl
    simp only[this,if_true,Option.some.injEq,Prod.mk.injEq] at hg
    rw[←hg.1,hps]
   ·rfl
  ·cases h
  ·rename_i hc1 hc2
   split
   ·rename_i g args hg
    split at hg
    ·rename_i f hf
     exact(hc2 f hf).elim
    ·cases hg
   ·rfl
 ·rfl
theorem stepOp_D' {call:CallIn} {id:Nat} {o:Oper} {s:St} {Kc:St→Option R} {r:R} (hw:callW C.isPlain o=false) (h:stepOp C call n no id o s Kc=some r) :
  ∃s',(if dstOk n o then(match walked C s o with
   |some _=>none
   |none=>match effOf C s no id o with
    |some (c,e)=>if c then some (s.apply o.dst e) else none
    |none=>none) else none)=some s'∧Kc s'=some r:=by
 refine stepOp_D ?_
 unfold stepOp at h ⊢
 rw[walked_none hw] at h ⊢
 exact h
theorem stepW_ok (hC:CtxOk C) {call:CallIn} (hcall:CallsOk C.P call) {Kc:St→Option R} {r:R} {o:Oper} {l:List Oper} {i id:Nat} {s:St} (hi:ops[i]?=some o) (h:runOps C call n no ops (o::l) id s Kc=some r):StepW C n ops i s (fun s'=>runOps C call n no ops l (id+16) s' Kc=some r):=by
 intro fr K a w hr next Q hn
 have go:∀s',stepOp C call n no id o s' (fun s=>runOps C call n no ops l (id+16) s Kc)=some r→Rel fr n K s' a w→o.wp C.P a w next Q:=fun s' hs hr' =>
  stepOp_ok hC hcall hs hr' (fun s'' K' a' w' hrel hkc=>hn s'' K' a' w' hrel hkc)
 have sk:∀s',(bif dstOk n o then runOps C call n no ops l (id+16) (s'.setO o.dst .undef) Kc else none)=some r→Rel fr n K s' a w→next (a.put o.dst undef) w:=fun s' hs hr'=>by
  cases hd:dstOk n o
  ·rw[hd] at hs;cases hs
  ·rw[hd] at hs
   exact hn _ K _ w (hr'.setO (dstOk_spec hd) RV_undef) hs
 unfold wpOp
 simp only[hi]
 unfold runOps at h
 split at h
 ·rename_i hg
  have hw:Region.wanted o (yielded ops a.tmps)=true:=by simp[Region.wanted,hg]
  rw[if_pos hw]
  exact .inl (go s h hr)
 ·rename_i j want hg
  split at h
  ·rename_i d hs
   split at h
   ·rename_i b hb
    have hw:=wanted_of hr hg hs hb
    cases b
    ·simp only[cond_false] at h
     rw[set_same hb rfl] at h
     cases want
     ·rw[hw]
      exact .inl (go s h hr)
     ·rw[hw]
      exact sk s h hr
    ·simp only[cond_true] at h
     rw[set_same hb rfl] at h
     cases want
     ·rw[hw]
      exact sk s h hr
     ·rw[hw]
      exact .inl (go s h hr)
   ·rename_i x hb
    have hw:=wanted_undef hr hg hs hb
    rw[hw]
    exact sk s h hr
   ·cases h
  ·cases h
theorem StepW.imp {i:Nat} {s:St} {X Y:St→Prop} (hXY:∀s,X s→Y s) (h:StepW C n ops i s X):StepW C n ops i s Y :=
 fun fr K a w hr next Q hn=>h fr K a w hr next Q (fun s' K' a' w' hrel hx=>hn s' K' a' w' hrel (hXY s' hx))
theorem runOps_P (hC:CtxOk C) {call:CallIn} (hcall:CallsOk C.P call) {base:Nat} {Kc:St→Option R} {r:R}:∀(l:List Oper) (k:Nat) (s:St),(∀j,l[j]?=ops[k+j]?)→runOps C call n no ops l (base+16*k) s Kc=some r →
  foldP C n no ops base (fun s'=>Kc s'=some r) (withIds l (base+16*k)) s
 |[],_,s,_,h=>h
 |o::l,k,s,hl,h=>by
  have h0:ops[k]?=some o:=by simpa using(hl 0).symm
  have hrest:∀j,l[j]?=ops[k+1+j]?:=fun j=>by
   have:=hl (j+1)
   rw[show k+1+j=k+(j+1) by omega]
   simpa using this
  have next:∀s',runOps C call n no ops l (base+16*k+16) s' Kc=some r→foldP C n no ops base (fun s'=>Kc s'=some r) (withIds l (base+16*k+16)) s':=fun s' hs=>by
   rw[show base+16*k+16=base+16*(k+1) by omega] at hs ⊢
   exact runOps_P hC hcall l (k+1) s' hrest hs
  simp only[withIds,foldP]
  refine⟨fun hw=>?_,fun hw=>?_⟩
  ·rw[show(base+16*k-base) / 16=k by omega]
   exact StepW.imp next (stepW_ok hC hcall h0 h)
  ·have fin:∀s',stepD C n no ops (base+16*k) o s=some s'→runOps C call n no ops l (base+16*k+16) s' Kc=some r→∃s'',stepD C n no ops (base+16*k) o s=some s''∧foldP C n no ops base (fun s'=>Kc s'=some r) (withIds l (base+16*k+16)) s'':=fun s' h1 h2=>⟨s',h1,next s' h2⟩
   unfold runOps at h
   split at h
   ·rename_i hg
    obtain⟨s',e1,e2⟩:=stepOp_D' hw h
    exact fin s' (by unfold stepD;simp only[hg];exact e1) e2
   ·rename_i j want hg
    split at h
    ·rename_i d hs
     split at h
     ·rename_i b hb
      have sk:∀c,b=c→(c==want)=false→(bif dstOk n o then runOps C call n no ops l (base+16*k+16) (s.setO o.dst .undef) Kc else none)=some r→∃s'',stepD C n no ops (base+16*k) o s=some s''∧foldP C n no ops base (fun s'=>Kc s'=some r) (withIds l (base+16*k+16)) s'':=fun c hc hwt hh=>by
       subst hc
       cases hd:dstOk n o
       ·rw[hd] at hh;cases hh
       ·rw[hd] at hh
        exact fin _ (by unfold stepD;simp only[hg,hs,hb,hwt,hd,Bool.false_eq_true,if_false,if_true]) hh
      have dn:∀c,b=c→(c==want)=true→stepOp C call n no (base+16*k) o s (fun s=>runOps C call n no ops l (base+16*k+16) s Kc)=some r→∃s'',stepD C n no ops (base+16*k) o s=some s''∧foldP C n no ops base (fun s'=>Kc s'=some r) (withIds l (base+16*k+16)) s'':=fun c hc hwt hh=>by
       subst hc
       obtain⟨s',e1,e2⟩:=stepOp_D' hw hh
       exact fin s' (by unfold stepD;simp only[hg,hs,hb,hwt,if_true];exact e1) e2
      cases b
      ·simp only[cond_false] at h
       rw[set_same hb rfl] at h
       cases want
       ·exact dn false rfl rfl h
       ·exact sk false rfl rfl h
      ·simp only[cond_true] at h
       rw[set_same hb rfl] at h
       cases want
       ·exact sk true rfl rfl h
       ·exact dn true rfl rfl h
     ·rename_i x hb
      cases hd:dstOk n o
      ·rw[hd] at h;cases h
      ·rw[hd] at h
       exact fin _ (by unfold stepD;simp only[hg,hs,hb,hd,if_true]) h
     ·cases h
    ·cases h
theorem any_ok (hC:CtxOk C) (hd:drawOk C.isPlain ops=true) {base:Nat} (hno:∀j o,ops[j]?=some o→cls o=2→∀k,no.rd k (base+16*j)=true)
  (hsep:∀i j p o,ops[i]?=some p→ops[j]?=some o→i<j→((ancs ops.toList []).getD j 0).testBit i=false→(isStore o=true→Sep no (base+16*i) (base+16*j))∧(isStore p=true→Sep no (base+16*j) (base+16*i))) {fr:Fr} {Q:Exit→Act→World→Prop} {G:St→Prop}
  (hq:∀s K a w,G s→Rel fr n K s a w→Q .normal a w):∀(fuel:Nat) (listed:Array Bool) (s:St) (K:Kinds) (a:Act) (w:World),listed.size=ops.size→(left listed ops.toList 0 base).length=fuel→Down ops listed →
   foldP C n no ops base G (strip (left listed ops.toList 0 base)) s→Rel fr n K s a w→wpAny C.P .any ops Q fuel listed a w:=by
 have hready:∀(listed:Array Bool),listed.size=ops.size→Region.ready .any ops listed=[]→left listed ops.toList 0 base=[]:=by
  intro listed hsz hr
  cases hl:left listed ops.toList 0 base with
  |nil=>rfl
  |cons x l =>
   exfalso
   -- the first of them is ready
   have hmem:x∈left listed ops.toList 0 base:=by rw[hl];simp
   obtain⟨_,h2,_,h4⟩:=left_mem _ _ _ _ hmem
   rw[Nat.sub_zero] at h2
   have hfirst:∀e,e<x.1→listed.getD e true=true:=by
    intro e he
    cases hle:listed.getD e true
    ·have hlt:e<ops.toList.length:=Nat.lt_trans he (List.getElem?_eq_some_iff.1 h2).1
     obtain⟨A,B,t1,_,t3⟩:=left_take (listed:=listed) (i:=e) ops.toList 0 base ops.toList[e] (List.getElem?_eq_getElem hlt) (by rw[Nat.zero_add];exact hle)
     rw[hl,Nat.zero_add] at t1
     cases A with
     |nil=>simp at t1;rw[t1.1] at he;exact absurd he (Nat.lt_irrefl _)
     |cons y A=>simp at t1;have:=t3 y (by simp);rw[Nat.zero_add,←t1.1] at this;omega
    ·rfl
   have:x.1∈Region.ready .any ops listed:=by
    rw[mem_ready]
    refine⟨h4,x.2.2,by simpa using h2,fun e he hb=>?_⟩
    have hel:e.on∈edges x.2.2:=by
     unfold edges
     rw[List.mem_filterMap]
     exact⟨e,by simpa using he,by rw[if_pos hb]⟩
    have hlt:=(allOk_spec ops.toList [] x.1 x.2.2 hd h2).1 _ hel
    simp at hlt
    have h5:=hfirst e.on hlt
    have hlts:e.on<listed.size:=by
     rw[hsz]
     have:=(List.getElem?_eq_some_iff.1 h2).1
     simp at this
     omega
    rw[Array.getD_eq_getD_getElem?,Array.getElem?_eq_getElem hlts] at h5 ⊢
    exact h5
   rw[hr] at this
   cases this
 intro fuel
 induction fuel with
 |zero =>
  intro listed s K a w hsz hlen hdown hf hr
  have hnil:left listed ops.toList 0 base=[]:=List.length_eq_zero_iff.1 hlen
  rw[hnil] at hf
  refine⟨?_,hq _ _ _ _ hf hr⟩
  cases hrd:Region.ready .any ops listed with
  |nil=>rfl
  |cons i l =>
   exfalso
   have:i∈Region.ready .any ops listed:=by rw[hrd];simp
   rw[mem_ready] at this
   obtain⟨h1,o,ho,_⟩:=this
   obtain⟨A,B,t1,_⟩:=left_take (listed:=listed) (i:=i) ops.toList 0 base o (by simpa using ho) (by rw[Nat.zero_add];exact h1)
   rw[hnil] at t1
   cases A<;>cases t1
 |succ fuel ih =>
  intro listed s K a w hsz hlen hdown hf hr
  refine⟨fun h0=>?_,fun i hi=>?_⟩
  ·rw[hready listed hsz h0] at hlen
   cases hlen
  ·rw[mem_ready] at hi
   obtain⟨h1,o,ho,hall⟩:=hi
   have hedges:∀e∈edges o,listed.getD e false=true:=by
    intro e he
    unfold edges at he
    rw[List.mem_filterMap] at he
    obtain⟨ed,h3,h4⟩:=he
    split at h4
    ·rename_i hb
     cases h4
     exact hall ed (by simpa using h3) hb
    ·cases h4
   obtain⟨A,B,t1,t2,t3⟩:=left_take (listed:=listed) (i:=i) ops.toList 0 base o (by simpa using ho) (by rw[Nat.zero_add];exact h1)
   rw[Nat.zero_add] at t1 t2 t3
   have hlt:i<listed.size:=by rw[hsz];exact(Array.getElem?_eq_some_iff.1 ho).1
   have hapart:∀x∈strip A,x.1≠base+16*i∧apartB C.isPlain ops x.2 o=true∧(cls x.2=2→∀k,no.rd k x.1=true)∧(isStore o=true→Sep no x.1 (base+16*i))∧(isStore x.2=true→Sep no (base+16*i) x.1):=by
    intro x hx
    obtain⟨y,hy,rfl⟩:=List.mem_map.1 hx
    have hy':y∈left listed ops.toList 0 base:=by rw[t1];simp[hy]
    obtain⟨_,m2,m3,m4⟩:=left_mem _ _ _ _ hy'
    rw[Nat.sub_zero] at m2 m3
    have hlt2:=t3 y hy
    have hun:((ancs ops.toList []).getD i 0).testBit y.1=false:=by
     cases h5:((ancs ops.toList []).getD i 0).testBit y.1
     ·rfl
     ·exfalso
      have:=anc_listed hd hdown i o ho hedges y.1 h5
      have hys:y.1<listed.size:=Nat.lt_trans hlt2 hlt
      rw[Array.getD_eq_getD_getElem?,Array.getElem?_eq_getElem hys] at this m4
      simp at this m4
      rw[this] at m4
      cases m4
    have hs:=hsep y.1 i y.2.2 o (by simpa using m2) ho hlt2 hun
    refine⟨by simp only;omega,?_,fun hc=>by simp only;rw[m3];exact hno y.1 y.2.2 (by simpa using m2) hc,by simp only;rw[m3];exact hs.1,by simp only;rw[m3];exact hs.2⟩
    rcases(allOk_spec ops.toList [] i o hd (by simpa using ho)).2 y.1 y.2.2 (by simpa using hlt2) (by simpa using m2) with h5 |h5
    ·rw[show([]:List Oper).length+i=i by simp,hun] at h5
     cases h5
    ·exact h5
   rw[t1] at hf
   unfold strip at hf
   rw[List.map_append,List.map_cons] at hf
   have hsz':(listed.setIfInBounds i true).size=ops.size:=by simp[hsz]
   have hlen':(left (listed.setIfInBounds i true) ops.toList 0 base).length=fuel:=by
    rw[t2]
    rw[t1] at hlen
    simp at hlen ⊢
    omega
   have hdown':Down ops (listed.setIfInBounds i true):=by
    intro j oj hj hlj e he
    by_cases hji:j=i
    ·subst hji
     rw[ho] at hj
     cases hj
     exact getD_set_true (hedges e he)
    ·rw[getD_set_ne false (Ne.symm hji)] at hlj
     exact getD_set_true (hdown j oj hj hlj e he)
   have hleft:∀s1,foldP C n no ops base G (strip A++strip B) s1→foldP C n no ops base G (strip (left (listed.setIfInBounds i true) ops.toList 0 base)) s1:=fun s1 e2=>by
    rw[t2]
    unfold strip at e2 ⊢
    rw[List.map_append]
    exact e2
   cases hw:callW C.isPlain o
   ·obtain⟨s1,e1,e2⟩:=fold_front (i:=i) (hno i o ho) hw _ _ _ hapart hf
    exact stepD_ok hC ho e1 hr (fun K' a' w' hr'=>ih _ s1 K' a' w' hsz' hlen' hdown' (hleft s1 e2) hr')
   ·have hA:A=[]:=by
     cases hA:A with
     |nil=>rfl
     |cons y A' =>
      exfalso
      have:=(hapart (y.2.1,y.2.2) (by rw[hA];simp[strip])).2.1
      unfold apartB at this
      rw[hw] at this
      simp at this
    subst hA
    simp only[List.map_nil,List.nil_append,foldP] at hf
    have h16:(base+16*i-base) / 16=i:=by omega
    have hst:=hf.1 hw
    rw[h16] at hst
    exact hst fr K a w hr _ Q (fun s1 K' a' w' hr' e2=>ih _ s1 K' a' w' hsz' hlen' hdown' (hleft s1 e2) hr')
theorem makes_spec {base:Nat}:∀(l:List Oper) (id k:Nat) (o:Oper),l[k]?=some o→cls o=2→(id+16*k)∈makes base l id
 |[],_,_,_,h,_=>by simp at h
 |q::l,id,0,o,h,hc=>by
  simp at h
  subst h
  unfold cls at hc
  unfold makes
  cases ho:q.op<;>simp[ho] at hc ⊢
  rename_i cl
  cases hcl:cl.callee<;>simp[hcl] at hc
  rename_i b
  cases b<;>simp at hc
 |q::l,id,k+1,o,h,hc=>by
  have:=makes_spec (base:=base) l (id+16) k o (by simpa using h) hc
  rw[show id+16+16*k=id+16*(k+1) by omega] at this
  unfold makes
  split
  ·exact List.mem_cons_of_mem _ this
  ·exact List.mem_cons_of_mem _ this
  ·exact this
theorem clash_of {anc:List Nat} {i b:Nat} {w:Option Nat}:∀(l:List (Option (Option Nat))) (k m:Nat),l[m]?=some (some w)→unordered anc i (k+m)=true→isBox b w=true→clash anc i b k l=true
 |[],_,_,h,_,_=>by simp at h
 |x::l,k,0,h,hu,hb=>by
  simp at h
  subst h
  simp only[clash]
  rw[Nat.add_zero] at hu
  rw[hu,hb]
  rfl
 |x::l,k,m+1,h,hu,hb=>by
  have:=clash_of (i:=i) (b:=b) l (k+1) m (by simpa using h) (by rw[show k+1+m=k+(m+1) by omega];exact hu) hb
  cases x with
  |none=>exact this
  |some w'=>simp only[clash,this,Bool.or_true]
theorem sep_lim {s0:St} {ops:Array Oper} {base i j:Nat} {o:Oper} (ho:ops[j]?=some o) (hst:isStore o=true) (hu:unordered (ancs ops.toList []) i j=true):Sep (limOf s0 base ops) (base+16*i) (base+16*j):=by
 intro b hb
 have hg:∃w,storeBox s0 ops.toList o=some w:=by
  unfold isStore at hst
  simp only[Bool.and_eq_true] at hst
  obtain⟨_,hop⟩:=hst
  split at hop
  ·rename_i ty x y ho'
   unfold storeBox
   rw[ho']
   cases x<;>exact⟨_,rfl⟩
  ·cases hop
 obtain⟨w,hw⟩:=hg
 have hget:(ops.toList.map (storeBox s0 ops.toList))[j]?=some (some w):=by
  rw[List.getElem?_map,Array.getElem?_toList,ho]
  simp[hw]
 have h16:∀k,(base+16*k-base) / 16=k:=fun k=>by omega
 simp only[limOf,h16] at hb ⊢
 rw[List.getD_eq_getElem?_getD,hget] at hb
 rw[clash_of _ 0 j hget (by rw[Nat.zero_add];exact hu) hb,Bool.or_true]
theorem drawn_ok (hC:CtxOk C):DrawnOk C drawOk:=by
 intro call hcall id ops hd fr n K s a w s0 base Kc r Q h hr hq
 have h1:=runOps_P (ops:=ops) hC hcall (base:=base) ops.toList 0 s (fun j=>by simp) (by rw[Nat.mul_zero,Nat.add_zero];exact h)
 rw[Nat.mul_zero,Nat.add_zero] at h1
 refine wp_region_any hC.mixed ?_
 have hr':Rel fr n K s a {w with drawn:=w.drawn+1}:=by
  have hst:Still w K {w with drawn:=w.drawn+1} K:={
   ext:={
    os:=rfl
    tape:=rfl
    output:=rfl
    size:=Nat.le_refl _
    fix:=fun _ _ _=>⟨rfl,rfl⟩
    stab:=fun _ _ _ hs=>⟨hs,rfl⟩
    box:=fun _ _ _ h=>h
    bsz:=fun _ _ _ _ _ h=>h}
   rows:=fun _ _ _ _ h=>⟨h,rfl⟩
   boxes:=fun _ _ _ _=>rfl
   fresh:=fun _ hb _ h=>⟨hb,h⟩}
  exact hr.still hst
 have hnone:∀k,k<ops.toList.length→(Array.replicate ops.size false).getD (0+k) true=false:=by
  intro k hk
  rw[Array.getD_eq_getD_getElem?,Nat.zero_add,Array.getElem?_eq_getElem (by simpa using hk)]
  simp
 refine any_ok hC hd (base:=base) (fun j o ho hc k=>?_) (fun i j p o hp ho hij hun=>⟨fun hst=>sep_lim ho hst ?_,fun hst=>sep_lim hp hst ?_⟩) (fun s' K' a' w' hg hrel=>hq s' K' a' w' hrel hg) ops.size (Array.replicate ops.size false) s K a _ (by simp) ?_ ?_ (by rw[left_none _ _ _ _ hnone];exact h1) hr'
 ·have:=makes_spec (base:=base) ops.toList base j o (by simpa using ho) hc
  simp only[limOf]
  rw[Bool.or_eq_true]
  exact .inl (by simpa using this)
 ·unfold unordered
  rw[show Nat.blt i j=true by rw[Nat.blt_eq];exact hij,hun]
  rfl
 ·unfold unordered
  rw[show Nat.blt j i=false from blt_false (by omega),hun]
  rfl
 ·have:=congrArg List.length (left_none ops.toList 0 base (Array.replicate ops.size false) hnone)
  unfold strip at this
  rw[List.length_map] at this
  rw[this]
  have hw:∀(l:List Oper) (k:Nat),(withIds l k).length=l.length:=by
   intro l
   induction l with
   |nil=>intro k;rfl
   |cons q l ih=>intro k;simp[withIds,ih]
  rw[hw]
  simp
 ·intro j o ho hl
  rw[Array.getD_eq_getD_getElem?,Array.getElem?_replicate] at hl
  split at hl<;>cases hl
end
end Go.Av
end
