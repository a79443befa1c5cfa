/- Texts of the proof, one behind the other. -/
import Derived.Test.YtamnhodjidmlcaaGreatCampaignSomeK3
import Derived.Test.YtamnhodjidmlcaaGreatCampaignSomeK2
section
namespace Go.Av
open Go
theorem qby {x:Int} (h:qT x=true):x≤12:=of_decide_eq_true h
theorem qyc (b:Bool) (r:List Bool):SG (b::(r++[false])) % 2=0:=by
 have h:H (r++[false])=2*H r:=by
  unfold H
  rw[qpZ]
  show((hb r 0*2+0:Nat):Int)=_
  omega
 show(H (r++[false])-b.toNat*(2 ^ (r++[false]).length:Nat)) % 2=0
 rw[h,List.length_append,Nat.pow_add]
 generalize 2 ^ r.length=p
 cases b<;>simp
theorem qRl:qF 1 false [true,false,true,true,true,true,true,true,false,false,false,false,false,false,false,false]=(1,0,0,0,0,0,0,false,()):=by
 kernel_rfl
theorem qGS (b:Bool) (r:List Bool) (m:Nat) (h:r.length=m):-((2 ^ m:Nat):Int)≤SG (b::r)∧SG (b::r)<(2 ^ m:Nat):=by
 subst h
 have h1:=qO r
 have h2:=qbO (l:=r) (Nat.le_refl _)
 unfold SG
 cases b
 ·simp only[Bool.toNat_false];constructor<;>omega
 ·simp only[Bool.toNat_true];constructor<;>omega
theorem qQu (imm:Int) (h:imm % 2=0) (h1:-16777216≤imm) (h2:imm≤16777214):okB 24 0 0 0 0 imm 0 true=true:=by
 simp[okB]
 omega
theorem qSI (a b:Bool):(!(nx a b ^^ b))=a:=by cases a<;>cases b<;>rfl
theorem qRs :okB 1 (0) (0) (0) (0) (0) (0) false=true∧(qb (1,false)).length=16∧hl (ltr (0) (0) (0) (0) (0) (0)) (qb (1,false))=[true,false,true,true,true,true,true,true,false,false,false,false,false,false,false,false]:=by
 refine⟨by kernel_rfl
  ,by kernel_rfl,by
   have e:∀rd rn rm ra imm cond:Int,hl (ltr rd rn rm ra imm cond) (qb (1,false))=[true,false,true,true,true,true,true,true,false,false,false,false,false,false,false,false]:=by intro rd rn rm ra imm cond;kernel_rfl
   rw[e]
  ⟩
theorem qSs (b8 b9 b10 b11 b12 b13 b14 b15:Bool):qF 2 false [true,false,true,true,true,true,true,false,b8,b9,b10,b11,b12,b13,b14,b15]=(2,0,0,0,0,H [b8,b9,b10,b11,b12,b13,b14,b15],0,false,()):=by
 have e:qF 2 false [true,false,true,true,true,true,true,false,b8,b9,b10,b11,b12,b13,b14,b15]=(2,0,0,0,0,((qbU [(7,b8),(6,b9),(5,b10),(4,b11),(3,b12),(2,b13),(1,b14),(0,b15)]:Nat):Int),0,false,()):=by kernel_rfl
 have e2:qbU [(7,b8),(6,b9),(5,b10),(4,b11),(3,b12),(2,b13),(1,b14),(0,b15)]=hb [b8,b9,b10,b11,b12,b13,b14,b15] 0:=by simp only[qbU,hb];omega
 rw[e,e2]
 rfl
theorem qQ1 (b8 b9 b10 b11 b12 b13 b14 b15:Bool) :okB 2 (0) (0) (0) (0) (H [b8,b9,b10,b11,b12,b13,b14,b15]) (0) false=true∧(qb (2,false)).length=16∧hl (ltr (0) (0) (0) (0) (H [b8,b9,b10,b11,b12,b13,b14,b15]) (0)) (qb (2,false))=[true,false,true,true,true,true,true,false,b8,b9,b10,b11,b12,b13,b14,b15]:=by
 have:=qO [b8,b9,b10,b11,b12,b13,b14,b15]
 have:H [b8,b9,b10,b11,b12,b13,b14,b15]<256:=qbO (l:=[b8,b9,b10,b11,b12,b13,b14,b15]) (k:=8) (by simp)
 have g0:bI (H [b8,b9,b10,b11,b12,b13,b14,b15]) 7=b8:=qm [b8,b9,b10,b11,b12,b13,b14,b15] 7 (by simp)
 have g1:bI (H [b8,b9,b10,b11,b12,b13,b14,b15]) 6=b9:=qm [b8,b9,b10,b11,b12,b13,b14,b15] 6 (by simp)
 have g2:bI (H [b8,b9,b10,b11,b12,b13,b14,b15]) 5=b10:=qm [b8,b9,b10,b11,b12,b13,b14,b15] 5 (by simp)
 have g3:bI (H [b8,b9,b10,b11,b12,b13,b14,b15]) 4=b11:=qm [b8,b9,b10,b11,b12,b13,b14,b15] 4 (by simp)
 have g4:bI (H [b8,b9,b10,b11,b12,b13,b14,b15]) 3=b12:=qm [b8,b9,b10,b11,b12,b13,b14,b15] 3 (by simp)
 have g5:bI (H [b8,b9,b10,b11,b12,b13,b14,b15]) 2=b13:=qm [b8,b9,b10,b11,b12,b13,b14,b15] 2 (by simp)
 have g6:bI (H [b8,b9,b10,b11,b12,b13,b14,b15]) 1=b14:=qm [b8,b9,b10,b11,b12,b13,b14,b15] 1 (by simp)
 have g7:bI (H [b8,b9,b10,b11,b12,b13,b14,b15]) 0=b15:=qm [b8,b9,b10,b11,b12,b13,b14,b15] 0 (by simp)
 refine⟨by
   simp[okB]
   try omega
  ,by kernel_rfl,by
   have e:∀rd rn rm ra imm cond:Int,hl (ltr rd rn rm ra imm cond) (qb (2,false))=[true,false,true,true,true,true,true,false,bI imm 7,bI imm 6,bI imm 5,bI imm 4,bI imm 3,bI imm 2,bI imm 1,bI imm 0]:=by intro rd rn rm ra imm cond;kernel_rfl
   rw[e]
   simp only[g0,g1,g2,g3,g4,g5,g6,g7]
  ⟩
theorem qSc (b5 b12 b13 b14 b15 b17 b18 b19 b20 b21 b22 b23 b24 b25 b26 b27 b28 b29 b30 b31:Bool):qF 3 false [true,true,true,true,false,b5,true,false,false,true,false,false,b12,b13,b14,b15,false,b17,b18,b19,b20,b21,b22,b23,b24,b25,b26,b27,b28,b29,b30,b31]=(3,H [b20,b21,b22,b23],0,0,0,H [b12,b13,b14,b15,b5,b17,b18,b19,b24,b25,b26,b27,b28,b29,b30,b31],0,false,()):=by
 have e:qF 3 false [true,true,true,true,false,b5,true,false,false,true,false,false,b12,b13,b14,b15,false,b17,b18,b19,b20,b21,b22,b23,b24,b25,b26,b27,b28,b29,b30,b31]=(3,H [b20,b21,b22,b23],0,0,0,((qbU [(11,b5),(15,b12),(14,b13),(13,b14),(12,b15),(10,b17),(9,b18),(8,b19),(7,b24),(6,b25),(5,b26),(4,b27),(3,b28),(2,b29),(1,b30),(0,b31)]:Nat):Int),0,false,()):=by kernel_rfl
 have e2:qbU [(11,b5),(15,b12),(14,b13),(13,b14),(12,b15),(10,b17),(9,b18),(8,b19),(7,b24),(6,b25),(5,b26),(4,b27),(3,b28),(2,b29),(1,b30),(0,b31)]=hb [b12,b13,b14,b15,b5,b17,b18,b19,b24,b25,b26,b27,b28,b29,b30,b31] 0:=by simp only[qbU,hb];omega
 rw[e,e2]
 rfl
theorem qRB (b5 b12 b13 b14 b15 b17 b18 b19 b20 b21 b22 b23 b24 b25 b26 b27 b28 b29 b30 b31:Bool) (h0:qT (H [b20,b21,b22,b23])=true):okB 3 (H [b20,b21,b22,b23]) (0) (0) (0) (H [b12,b13,b14,b15,b5,b17,b18,b19,b24,b25,b26,b27,b28,b29,b30,b31]) (0) false=true∧(qb (3,false)).length=32∧hl (ltr (H [b20,b21,b22,b23]) (0) (0) (0) (H [b12,b13,b14,b15,b5,b17,b18,b19,b24,b25,b26,b27,b28,b29,b30,b31]) (0)) ((qb (3,false)).take 16)=[true,true,true,true,false,b5,true,false,false,true,false,false,b12,b13,b14,b15]∧hl (ltr (H [b20,b21,b22,b23]) (0) (0) (0) (H [b12,b13,b14,b15,b5,b17,b18,b19,b24,b25,b26,b27,b28,b29,b30,b31]) (0)) ((qb (3,false)).drop 16)=[false,b17,b18,b19,b20,b21,b22,b23,b24,b25,b26,b27,b28,b29,b30,b31]:=by
 have h0:=qby h0
 have:=qO [b20,b21,b22,b23]
 have:H [b20,b21,b22,b23]<16:=qbO (l:=[b20,b21,b22,b23]) (k:=4) (by simp)
 have:=qO [b12,b13,b14,b15,b5,b17,b18,b19,b24,b25,b26,b27,b28,b29,b30,b31]
 have:H [b12,b13,b14,b15,b5,b17,b18,b19,b24,b25,b26,b27,b28,b29,b30,b31]<65536:=qbO (l:=[b12,b13,b14,b15,b5,b17,b18,b19,b24,b25,b26,b27,b28,b29,b30,b31]) (k:=16) (by simp)
 have g0:bI (H [b20,b21,b22,b23]) 3=b20:=qm [b20,b21,b22,b23] 3 (by simp)
 have g1:bI (H [b20,b21,b22,b23]) 2=b21:=qm [b20,b21,b22,b23] 2 (by simp)
 have g2:bI (H [b20,b21,b22,b23]) 1=b22:=qm [b20,b21,b22,b23] 1 (by simp)
 have g3:bI (H [b20,b21,b22,b23]) 0=b23:=qm [b20,b21,b22,b23] 0 (by simp)
 have g4:bI (H [b12,b13,b14,b15,b5,b17,b18,b19,b24,b25,b26,b27,b28,b29,b30,b31]) 15=b12:=qm [b12,b13,b14,b15,b5,b17,b18,b19,b24,b25,b26,b27,b28,b29,b30,b31] 15 (by simp)
 have g5:bI (H [b12,b13,b14,b15,b5,b17,b18,b19,b24,b25,b26,b27,b28,b29,b30,b31]) 14=b13:=qm [b12,b13,b14,b15,b5,b17,b18,b19,b24,b25,b26,b27,b28,b29,b30,b31] 14 (by simp)
 have g6:bI (H [b12,b13,b14,b15,b5,b17,b18,b19,b24,b25,b26,b27,b28,b29,b30,b31]) 13=b14:=qm [b12,b13,b14,b15,b5,b17,b18,b19,b24,b25,b26,b27,b28,b29,b30,b31] 13 (by simp)
 have g7:bI (H [b12,b13,b14,b15,b5,b17,b18,b19,b24,b25,b26,b27,b28,b29,b30,b31]) 12=b15:=qm [b12,b13,b14,b15,b5,b17,b18,b19,b24,b25,b26,b27,b28,b29,b30,b31] 12 (by simp)
 have g8:bI (H [b12,b13,b14,b15,b5,b17,b18,b19,b24,b25,b26,b27,b28,b29,b30,b31]) 11=b5:=qm [b12,b13,b14,b15,b5,b17,b18,b19,b24,b25,b26,b27,b28,b29,b30,b31] 11 (by simp)
 have g9:bI (H [b12,b13,b14,b15,b5,b17,b18,b19,b24,b25,b26,b27,b28,b29,b30,b31]) 10=b17:=qm [b12,b13,b14,b15,b5,b17,b18,b19,b24,b25,b26,b27,b28,b29,b30,b31] 10 (by simp)
 have g10:bI (H [b12,b13,b14,b15,b5,b17,b18,b19,b24,b25,b26,b27,b28,b29,b30,b31]) 9=b18:=qm [b12,b13,b14,b15,b5,b17,b18,b19,b24,b25,b26,b27,b28,b29,b30,b31] 9 (by simp)
 have g11:bI (H [b12,b13,b14,b15,b5,b17,b18,b19,b24,b25,b26,b27,b28,b29,b30,b31]) 8=b19:=qm [b12,b13,b14,b15,b5,b17,b18,b19,b24,b25,b26,b27,b28,b29,b30,b31] 8 (by simp)
 have g12:bI (H [b12,b13,b14,b15,b5,b17,b18,b19,b24,b25,b26,b27,b28,b29,b30,b31]) 7=b24:=qm [b12,b13,b14,b15,b5,b17,b18,b19,b24,b25,b26,b27,b28,b29,b30,b31] 7 (by simp)
 have g13:bI (H [b12,b13,b14,b15,b5,b17,b18,b19,b24,b25,b26,b27,b28,b29,b30,b31]) 6=b25:=qm [b12,b13,b14,b15,b5,b17,b18,b19,b24,b25,b26,b27,b28,b29,b30,b31] 6 (by simp)
 have g14:bI (H [b12,b13,b14,b15,b5,b17,b18,b19,b24,b25,b26,b27,b28,b29,b30,b31]) 5=b26:=qm [b12,b13,b14,b15,b5,b17,b18,b19,b24,b25,b26,b27,b28,b29,b30,b31] 5 (by simp)
 have g15:bI (H [b12,b13,b14,b15,b5,b17,b18,b19,b24,b25,b26,b27,b28,b29,b30,b31]) 4=b27:=qm [b12,b13,b14,b15,b5,b17,b18,b19,b24,b25,b26,b27,b28,b29,b30,b31] 4 (by simp)
 have g16:bI (H [b12,b13,b14,b15,b5,b17,b18,b19,b24,b25,b26,b27,b28,b29,b30,b31]) 3=b28:=qm [b12,b13,b14,b15,b5,b17,b18,b19,b24,b25,b26,b27,b28,b29,b30,b31] 3 (by simp)
 have g17:bI (H [b12,b13,b14,b15,b5,b17,b18,b19,b24,b25,b26,b27,b28,b29,b30,b31]) 2=b29:=qm [b12,b13,b14,b15,b5,b17,b18,b19,b24,b25,b26,b27,b28,b29,b30,b31] 2 (by simp)
 have g18:bI (H [b12,b13,b14,b15,b5,b17,b18,b19,b24,b25,b26,b27,b28,b29,b30,b31]) 1=b30:=qm [b12,b13,b14,b15,b5,b17,b18,b19,b24,b25,b26,b27,b28,b29,b30,b31] 1 (by simp)
 have g19:bI (H [b12,b13,b14,b15,b5,b17,b18,b19,b24,b25,b26,b27,b28,b29,b30,b31]) 0=b31:=qm [b12,b13,b14,b15,b5,b17,b18,b19,b24,b25,b26,b27,b28,b29,b30,b31] 0 (by simp)
 refine⟨by
   simp[okB]
   try omega
  ,by kernel_rfl,by
   have e:∀rd rn rm ra imm cond:Int,hl (ltr rd rn rm ra imm cond) ((qb (3,false)).take 16)=[true,true,true,true,false,bI imm 11,true,false,false,true,false,false,bI imm 15,bI imm 14,bI imm 13,bI imm 12]:=by intro rd rn rm ra imm cond;kernel_rfl
   rw[e]
   simp only[g8,g4,g5,g6,g7]
  ,by
   have e:∀rd rn rm ra imm cond:Int,hl (ltr rd rn rm ra imm cond) ((qb (3,false)).drop 16)=[false,bI imm 10,bI imm 9,bI imm 8,bI rd 3,bI rd 2,bI rd 1,bI rd 0,bI imm 7,bI imm 6,bI imm 5,bI imm 4,bI imm 3,bI imm 2,bI imm 1,bI imm 0]:=by intro rd rn rm ra imm cond;kernel_rfl
   rw[e]
   simp only[g9,g10,g11,g0,g1,g2,g3,g12,g13,g14,g15,g16,g17,g18,g19]
  ⟩
theorem qQ5 (b5 b12 b13 b14 b15 b17 b18 b19 b20 b21 b22 b23 b24 b25 b26 b27 b28 b29 b30 b31:Bool):qF 4 false [true,true,true,true,false,b5,true,false,true,true,false,false,b12,b13,b14,b15,false,b17,b18,b19,b20,b21,b22,b23,b24,b25,b26,b27,b28,b29,b30,b31]=(4,H [b20,b21,b22,b23],0,0,0,H [b12,b13,b14,b15,b5,b17,b18,b19,b24,b25,b26,b27,b28,b29,b30,b31],0,false,()):=by
 have e:qF 4 false [true,true,true,true,false,b5,true,false,true,true,false,false,b12,b13,b14,b15,false,b17,b18,b19,b20,b21,b22,b23,b24,b25,b26,b27,b28,b29,b30,b31]=(4,H [b20,b21,b22,b23],0,0,0,((qbU [(11,b5),(15,b12),(14,b13),(13,b14),(12,b15),(10,b17),(9,b18),(8,b19),(7,b24),(6,b25),(5,b26),(4,b27),(3,b28),(2,b29),(1,b30),(0,b31)]:Nat):Int),0,false,()):=by kernel_rfl
 have e2:qbU [(11,b5),(15,b12),(14,b13),(13,b14),(12,b15),(10,b17),(9,b18),(8,b19),(7,b24),(6,b25),(5,b26),(4,b27),(3,b28),(2,b29),(1,b30),(0,b31)]=hb [b12,b13,b14,b15,b5,b17,b18,b19,b24,b25,b26,b27,b28,b29,b30,b31] 0:=by simp only[qbU,hb];omega
 rw[e,e2]
 rfl
theorem qSe (b5 b12 b13 b14 b15 b17 b18 b19 b20 b21 b22 b23 b24 b25 b26 b27 b28 b29 b30 b31:Bool) (h0:qT (H [b20,b21,b22,b23])=true):okB 4 (H [b20,b21,b22,b23]) (0) (0) (0) (H [b12,b13,b14,b15,b5,b17,b18,b19,b24,b25,b26,b27,b28,b29,b30,b31]) (0) false=true∧(qb (4,false)).length=32∧hl (ltr (H [b20,b21,b22,b23]) (0) (0) (0) (H [b12,b13,b14,b15,b5,b17,b18,b19,b24,b25,b26,b27,b28,b29,b30,b31]) (0)) ((qb (4,false)).take 16)=[true,true,true,true,false,b5,true,false,true,true,false,false,b12,b13,b14,b15]∧hl (ltr (H [b20,b21,b22,b23]) (0) (0) (0) (H [b12,b13,b14,b15,b5,b17,b18,b19,b24,b25,b26,b27,b28,b29,b30,b31]) (0)) ((qb (4,false)).drop 16)=[false,b17,b18,b19,b20,b21,b22,b23,b24,b25,b26,b27,b28,b29,b30,b31]:=by
 have h0:=qby h0
 have:=qO [b20,b21,b22,b23]
 have:H [b20,b21,b22,b23]<16:=qbO (l:=[b20,b21,b22,b23]) (k:=4) (by simp)
 have:=qO [b12,b13,b14,b15,b5,b17,b18,b19,b24,b25,b26,b27,b28,b29,b30,b31]
 have:H [b12,b13,b14,b15,b5,b17,b18,b19,b24,b25,b26,b27,b28,b29,b30,b31]<65536:=qbO (l:=[b12,b13,b14,b15,b5,b17,b18,b19,b24,b25,b26,b27,b28,b29,b30,b31]) (k:=16) (by simp)
 have g0:bI (H [b20,b21,b22,b23]) 3=b20:=qm [b20,b21,b22,b23] 3 (by simp)
 have g1:bI (H [b20,b21,b22,b23]) 2=b21:=qm [b20,b21,b22,b23] 2 (by simp)
 have g2:bI (H [b20,b21,b22,b23]) 1=b22:=qm [b20,b21,b22,b23] 1 (by simp)
 have g3:bI (H [b20,b21,b22,b23]) 0=b23:=qm [b20,b21,b22,b23] 0 (by simp)
 have g4:bI (H [b12,b13,b14,b15,b5,b17,b18,b19,b24,b25,b26,b27,b28,b29,b30,b31]) 15=b12:=qm [b12,b13,b14,b15,b5,b17,b18,b19,b24,b25,b26,b27,b28,b29,b30,b31] 15 (by simp)
 have g5:bI (H [b12,b13,b14,b15,b5,b17,b18,b19,b24,b25,b26,b27,b28,b29,b30,b31]) 14=b13:=qm [b12,b13,b14,b15,b5,b17,b18,b19,b24,b25,b26,b27,b28,b29,b30,b31] 14 (by simp)
 have g6:bI (H [b12,b13,b14,b15,b5,b17,b18,b19,b24,b25,b26,b27,b28,b29,b30,b31]) 13=b14:=qm [b12,b13,b14,b15,b5,b17,b18,b19,b24,b25,b26,b27,b28,b29,b30,b31] 13 (by simp)
 have g7:bI (H [b12,b13,b14,b15,b5,b17,b18,b19,b24,b25,b26,b27,b28,b29,b30,b31]) 12=b15:=qm [b12,b13,b14,b15,b5,b17,b18,b19,b24,b25,b26,b27,b28,b29,b30,b31] 12 (by simp)
 have g8:bI (H [b12,b13,b14,b15,b5,b17,b18,b19,b24,b25,b26,b27,b28,b29,b30,b31]) 11=b5:=qm [b12,b13,b14,b15,b5,b17,b18,b19,b24,b25,b26,b27,b28,b29,b30,b31] 11 (by simp)
 have g9:bI (H [b12,b13,b14,b15,b5,b17,b18,b19,b24,b25,b26,b27,b28,b29,b30,b31]) 10=b17:=qm [b12,b13,b14,b15,b5,b17,b18,b19,b24,b25,b26,b27,b28,b29,b30,b31] 10 (by simp)
 have g10:bI (H [b12,b13,b14,b15,b5,b17,b18,b19,b24,b25,b26,b27,b28,b29,b30,b31]) 9=b18:=qm [b12,b13,b14,b15,b5,b17,b18,b19,b24,b25,b26,b27,b28,b29,b30,b31] 9 (by simp)
 have g11:bI (H [b12,b13,b14,b15,b5,b17,b18,b19,b24,b25,b26,b27,b28,b29,b30,b31]) 8=b19:=qm [b12,b13,b14,b15,b5,b17,b18,b19,b24,b25,b26,b27,b28,b29,b30,b31] 8 (by simp)
 have g12:bI (H [b12,b13,b14,b15,b5,b17,b18,b19,b24,b25,b26,b27,b28,b29,b30,b31]) 7=b24:=qm [b12,b13,b14,b15,b5,b17,b18,b19,b24,b25,b26,b27,b28,b29,b30,b31] 7 (by simp)
 have g13:bI (H [b12,b13,b14,b15,b5,b17,b18,b19,b24,b25,b26,b27,b28,b29,b30,b31]) 6=b25:=qm [b12,b13,b14,b15,b5,b17,b18,b19,b24,b25,b26,b27,b28,b29,b30,b31] 6 (by simp)
 have g14:bI (H [b12,b13,b14,b15,b5,b17,b18,b19,b24,b25,b26,b27,b28,b29,b30,b31]) 5=b26:=qm [b12,b13,b14,b15,b5,b17,b18,b19,b24,b25,b26,b27,b28,b29,b30,b31] 5 (by simp)
 have g15:bI (H [b12,b13,b14,b15,b5,b17,b18,b19,b24,b25,b26,b27,b28,b29,b30,b31]) 4=b27:=qm [b12,b13,b14,b15,b5,b17,b18,b19,b24,b25,b26,b27,b28,b29,b30,b31] 4 (by simp)
 have g16:bI (H [b12,b13,b14,b15,b5,b17,b18,b19,b24,b25,b26,b27,b28,b29,b30,b31]) 3=b28:=qm [b12,b13,b14,b15,b5,b17,b18,b19,b24,b25,b26,b27,b28,b29,b30,b31] 3 (by simp)
 have g17:bI (H [b12,b13,b14,b15,b5,b17,b18,b19,b24,b25,b26,b27,b28,b29,b30,b31]) 2=b29:=qm [b12,b13,b14,b15,b5,b17,b18,b19,b24,b25,b26,b27,b28,b29,b30,b31] 2 (by simp)
 have g18:bI (H [b12,b13,b14,b15,b5,b17,b18,b19,b24,b25,b26,b27,b28,b29,b30,b31]) 1=b30:=qm [b12,b13,b14,b15,b5,b17,b18,b19,b24,b25,b26,b27,b28,b29,b30,b31] 1 (by simp)
 have g19:bI (H [b12,b13,b14,b15,b5,b17,b18,b19,b24,b25,b26,b27,b28,b29,b30,b31]) 0=b31:=qm [b12,b13,b14,b15,b5,b17,b18,b19,b24,b25,b26,b27,b28,b29,b30,b31] 0 (by simp)
 refine⟨by
   simp[okB]
   try omega
  ,by kernel_rfl,by
   have e:∀rd rn rm ra imm cond:Int,hl (ltr rd rn rm ra imm cond) ((qb (4,false)).take 16)=[true,true,true,true,false,bI imm 11,true,false,true,true,false,false,bI imm 15,bI imm 14,bI imm 13,bI imm 12]:=by intro rd rn rm ra imm cond;kernel_rfl
   rw[e]
   simp only[g8,g4,g5,g6,g7]
  ,by
   have e:∀rd rn rm ra imm cond:Int,hl (ltr rd rn rm ra imm cond) ((qb (4,false)).drop 16)=[false,bI imm 10,bI imm 9,bI imm 8,bI rd 3,bI rd 2,bI rd 1,bI rd 0,bI imm 7,bI imm 6,bI imm 5,bI imm 4,bI imm 3,bI imm 2,bI imm 1,bI imm 0]:=by intro rd rn rm ra imm cond;kernel_rfl
   rw[e]
   simp only[g9,g10,g11,g0,g1,g2,g3,g12,g13,g14,g15,g16,g17,g18,g19]
  ⟩
theorem qR9 (b17 b18 b19 b20 b21 b22 b23 b24 b25 b28 b29 b30 b31:Bool):qF 5 false [true,true,true,false,true,false,true,false,false,true,false,false,true,true,true,true,false,b17,b18,b19,b20,b21,b22,b23,b24,b25,false,false,b28,b29,b30,b31]=(5,H [b20,b21,b22,b23],0,H [b28,b29,b30,b31],0,H [b17,b18,b19,b24,b25],0,false,()):=by
 have e:qF 5 false [true,true,true,false,true,false,true,false,false,true,false,false,true,true,true,true,false,b17,b18,b19,b20,b21,b22,b23,b24,b25,false,false,b28,b29,b30,b31]=(5,H [b20,b21,b22,b23],0,H [b28,b29,b30,b31],0,((qbU [(4,b17),(3,b18),(2,b19),(1,b24),(0,b25)]:Nat):Int),0,false,()):=by kernel_rfl
 have e2:qbU [(4,b17),(3,b18),(2,b19),(1,b24),(0,b25)]=hb [b17,b18,b19,b24,b25] 0:=by simp only[qbU,hb];omega
 rw[e,e2]
 rfl
theorem qRr (b17 b18 b19 b20 b21 b22 b23 b24 b25 b28 b29 b30 b31:Bool) (h0:qT (H [b20,b21,b22,b23])=true) (h1:qT (H [b28,b29,b30,b31])=true):okB 5 (H [b20,b21,b22,b23]) (0) (H [b28,b29,b30,b31]) (0) (H [b17,b18,b19,b24,b25]) (0) false=true∧(qb (5,false)).length=32∧hl (ltr (H [b20,b21,b22,b23]) (0) (H [b28,b29,b30,b31]) (0) (H [b17,b18,b19,b24,b25]) (0)) ((qb (5,false)).take 16)=[true,true,true,false,true,false,true,false,false,true,false,false,true,true,true,true]∧hl (ltr (H [b20,b21,b22,b23]) (0) (H [b28,b29,b30,b31]) (0) (H [b17,b18,b19,b24,b25]) (0)) ((qb (5,false)).drop 16)=[false,b17,b18,b19,b20,b21,b22,b23,b24,b25,false,false,b28,b29,b30,b31]:=by
 have h0:=qby h0
 have h1:=qby h1
 have:=qO [b20,b21,b22,b23]
 have:H [b20,b21,b22,b23]<16:=qbO (l:=[b20,b21,b22,b23]) (k:=4) (by simp)
 have:=qO [b28,b29,b30,b31]
 have:H [b28,b29,b30,b31]<16:=qbO (l:=[b28,b29,b30,b31]) (k:=4) (by simp)
 have:=qO [b17,b18,b19,b24,b25]
 have:H [b17,b18,b19,b24,b25]<32:=qbO (l:=[b17,b18,b19,b24,b25]) (k:=5) (by simp)
 have g0:bI (H [b20,b21,b22,b23]) 3=b20:=qm [b20,b21,b22,b23] 3 (by simp)
 have g1:bI (H [b20,b21,b22,b23]) 2=b21:=qm [b20,b21,b22,b23] 2 (by simp)
 have g2:bI (H [b20,b21,b22,b23]) 1=b22:=qm [b20,b21,b22,b23] 1 (by simp)
 have g3:bI (H [b20,b21,b22,b23]) 0=b23:=qm [b20,b21,b22,b23] 0 (by simp)
 have g4:bI (H [b28,b29,b30,b31]) 3=b28:=qm [b28,b29,b30,b31] 3 (by simp)
 have g5:bI (H [b28,b29,b30,b31]) 2=b29:=qm [b28,b29,b30,b31] 2 (by simp)
 have g6:bI (H [b28,b29,b30,b31]) 1=b30:=qm [b28,b29,b30,b31] 1 (by simp)
 have g7:bI (H [b28,b29,b30,b31]) 0=b31:=qm [b28,b29,b30,b31] 0 (by simp)
 have g8:bI (H [b17,b18,b19,b24,b25]) 4=b17:=qm [b17,b18,b19,b24,b25] 4 (by simp)
 have g9:bI (H [b17,b18,b19,b24,b25]) 3=b18:=qm [b17,b18,b19,b24,b25] 3 (by simp)
 have g10:bI (H [b17,b18,b19,b24,b25]) 2=b19:=qm [b17,b18,b19,b24,b25] 2 (by simp)
 have g11:bI (H [b17,b18,b19,b24,b25]) 1=b24:=qm [b17,b18,b19,b24,b25] 1 (by simp)
 have g12:bI (H [b17,b18,b19,b24,b25]) 0=b25:=qm [b17,b18,b19,b24,b25] 0 (by simp)
 refine⟨by
   simp[okB]
   try omega
  ,by kernel_rfl,by
   have e:∀rd rn rm ra imm cond:Int,hl (ltr rd rn rm ra imm cond) ((qb (5,false)).take 16)=[true,true,true,false,true,false,true,false,false,true,false,false,true,true,true,true]:=by intro rd rn rm ra imm cond;kernel_rfl
   rw[e]
  ,by
   have e:∀rd rn rm ra imm cond:Int,hl (ltr rd rn rm ra imm cond) ((qb (5,false)).drop 16)=[false,bI imm 4,bI imm 3,bI imm 2,bI rd 3,bI rd 2,bI rd 1,bI rd 0,bI imm 1,bI imm 0,false,false,bI rm 3,bI rm 2,bI rm 1,bI rm 0]:=by intro rd rn rm ra imm cond;kernel_rfl
   rw[e]
   simp only[g8,g9,g10,g0,g1,g2,g3,g11,g12,g4,g5,g6,g7]
  ⟩
theorem qRT (b17 b18 b19 b20 b21 b22 b23 b24 b25 b28 b29 b30 b31:Bool):qF 6 false [true,true,true,false,true,false,true,false,false,true,false,false,true,true,true,true,false,b17,b18,b19,b20,b21,b22,b23,b24,b25,false,true,b28,b29,b30,b31]=(6,H [b20,b21,b22,b23],0,H [b28,b29,b30,b31],0,H [b17,b18,b19,b24,b25],0,false,()):=by
 have e:qF 6 false [true,true,true,false,true,false,true,false,false,true,false,false,true,true,true,true,false,b17,b18,b19,b20,b21,b22,b23,b24,b25,false,true,b28,b29,b30,b31]=(6,H [b20,b21,b22,b23],0,H [b28,b29,b30,b31],0,((qbU [(4,b17),(3,b18),(2,b19),(1,b24),(0,b25)]:Nat):Int),0,false,()):=by kernel_rfl
 have e2:qbU [(4,b17),(3,b18),(2,b19),(1,b24),(0,b25)]=hb [b17,b18,b19,b24,b25] 0:=by simp only[qbU,hb];omega
 rw[e,e2]
 rfl
theorem qRM (b17 b18 b19 b20 b21 b22 b23 b24 b25 b28 b29 b30 b31:Bool) (h0:qT (H [b20,b21,b22,b23])=true) (h1:qT (H [b28,b29,b30,b31])=true) (h2:H [b17,b18,b19,b24,b25] > 0):okB 6 (H [b20,b21,b22,b23]) (0) (H [b28,b29,b30,b31]) (0) (H [b17,b18,b19,b24,b25]) (0) false=true∧(qb (6,false)).length=32∧hl (ltr (H [b20,b21,b22,b23]) (0) (H [b28,b29,b30,b31]) (0) (H [b17,b18,b19,b24,b25]) (0)) ((qb (6,false)).take 16)=[true,true,true,false,true,false,true,false,false,true,false,false,true,true,true,true]∧hl (ltr (H [b20,b21,b22,b23]) (0) (H [b28,b29,b30,b31]) (0) (H [b17,b18,b19,b24,b25]) (0)) ((qb (6,false)).drop 16)=[false,b17,b18,b19,b20,b21,b22,b23,b24,b25,false,true,b28,b29,b30,b31]:=by
 have h0:=qby h0
 have h1:=qby h1
 have:=qO [b20,b21,b22,b23]
 have:H [b20,b21,b22,b23]<16:=qbO (l:=[b20,b21,b22,b23]) (k:=4) (by simp)
 have:=qO [b28,b29,b30,b31]
 have:H [b28,b29,b30,b31]<16:=qbO (l:=[b28,b29,b30,b31]) (k:=4) (by simp)
 have:=qO [b17,b18,b19,b24,b25]
 have:H [b17,b18,b19,b24,b25]<32:=qbO (l:=[b17,b18,b19,b24,b25]) (k:=5) (by simp)
 have g0:bI (H [b20,b21,b22,b23]) 3=b20:=qm [b20,b21,b22,b23] 3 (by simp)
 have g1:bI (H [b20,b21,b22,b23]) 2=b21:=qm [b20,b21,b22,b23] 2 (by simp)
 have g2:bI (H [b20,b21,b22,b23]) 1=b22:=qm [b20,b21,b22,b23] 1 (by simp)
 have g3:bI (H [b20,b21,b22,b23]) 0=b23:=qm [b20,b21,b22,b23] 0 (by simp)
 have g4:bI (H [b28,b29,b30,b31]) 3=b28:=qm [b28,b29,b30,b31] 3 (by simp)
 have g5:bI (H [b28,b29,b30,b31]) 2=b29:=qm [b28,b29,b30,b31] 2 (by simp)
 have g6:bI (H [b28,b29,b30,b31]) 1=b30:=qm [b28,b29,b30,b31] 1 (by simp)
 have g7:bI (H [b28,b29,b30,b31]) 0=b31:=qm [b28,b29,b30,b31] 0 (by simp)
 have g8:bI (H [b17,b18,b19,b24,b25]) 4=b17:=qm [b17,b18,b19,b24,b25] 4 (by simp)
 have g9:bI (H [b17,b18,b19,b24,b25]) 3=b18:=qm [b17,b18,b19,b24,b25] 3 (by simp)
 have g10:bI (H [b17,b18,b19,b24,b25]) 2=b19:=qm [b17,b18,b19,b24,b25] 2 (by simp)
 have g11:bI (H [b17,b18,b19,b24,b25]) 1=b24:=qm [b17,b18,b19,b24,b25] 1 (by simp)
 have g12:bI (H [b17,b18,b19,b24,b25]) 0=b25:=qm [b17,b18,b19,b24,b25] 0 (by simp)
 refine⟨by
   simp[okB]
   try omega
  ,by kernel_rfl,by
   have e:∀rd rn rm ra imm cond:Int,hl (ltr rd rn rm ra imm cond) ((qb (6,false)).take 16)=[true,true,true,false,true,false,true,false,false,true,false,false,true,true,true,true]:=by intro rd rn rm ra imm cond;kernel_rfl
   rw[e]
  ,by
   have e:∀rd rn rm ra imm cond:Int,hl (ltr rd rn rm ra imm cond) ((qb (6,false)).drop 16)=[false,bI imm 4,bI imm 3,bI imm 2,bI rd 3,bI rd 2,bI rd 1,bI rd 0,bI imm 1,bI imm 0,false,true,bI rm 3,bI rm 2,bI rm 1,bI rm 0]:=by intro rd rn rm ra imm cond;kernel_rfl
   rw[e]
   simp only[g8,g9,g10,g0,g1,g2,g3,g11,g12,g4,g5,g6,g7]
  ⟩
theorem qQ8 (b17 b18 b19 b20 b21 b22 b23 b24 b25 b28 b29 b30 b31:Bool):qF 7 false [true,true,true,false,true,false,true,false,false,true,false,false,true,true,true,true,false,b17,b18,b19,b20,b21,b22,b23,b24,b25,true,false,b28,b29,b30,b31]=(7,H [b20,b21,b22,b23],0,H [b28,b29,b30,b31],0,H [b17,b18,b19,b24,b25],0,false,()):=by
 have e:qF 7 false [true,true,true,false,true,false,true,false,false,true,false,false,true,true,true,true,false,b17,b18,b19,b20,b21,b22,b23,b24,b25,true,false,b28,b29,b30,b31]=(7,H [b20,b21,b22,b23],0,H [b28,b29,b30,b31],0,((qbU [(4,b17),(3,b18),(2,b19),(1,b24),(0,b25)]:Nat):Int),0,false,()):=by kernel_rfl
 have e2:qbU [(4,b17),(3,b18),(2,b19),(1,b24),(0,b25)]=hb [b17,b18,b19,b24,b25] 0:=by simp only[qbU,hb];omega
 rw[e,e2]
 rfl
theorem qRz (b17 b18 b19 b20 b21 b22 b23 b24 b25 b28 b29 b30 b31:Bool) (h0:qT (H [b20,b21,b22,b23])=true) (h1:qT (H [b28,b29,b30,b31])=true) (h2:H [b17,b18,b19,b24,b25] > 0):okB 7 (H [b20,b21,b22,b23]) (0) (H [b28,b29,b30,b31]) (0) (H [b17,b18,b19,b24,b25]) (0) false=true∧(qb (7,false)).length=32∧hl (ltr (H [b20,b21,b22,b23]) (0) (H [b28,b29,b30,b31]) (0) (H [b17,b18,b19,b24,b25]) (0)) ((qb (7,false)).take 16)=[true,true,true,false,true,false,true,false,false,true,false,false,true,true,true,true]∧hl (ltr (H [b20,b21,b22,b23]) (0) (H [b28,b29,b30,b31]) (0) (H [b17,b18,b19,b24,b25]) (0)) ((qb (7,false)).drop 16)=[false,b17,b18,b19,b20,b21,b22,b23,b24,b25,true,false,b28,b29,b30,b31]:=by
 have h0:=qby h0
 have h1:=qby h1
 have:=qO [b20,b21,b22,b23]
 have:H [b20,b21,b22,b23]<16:=qbO (l:=[b20,b21,b22,b23]) (k:=4) (by simp)
 have:=qO [b28,b29,b30,b31]
 have:H [b28,b29,b30,b31]<16:=qbO (l:=[b28,b29,b30,b31]) (k:=4) (by simp)
 have:=qO [b17,b18,b19,b24,b25]
 have:H [b17,b18,b19,b24,b25]<32:=qbO (l:=[b17,b18,b19,b24,b25]) (k:=5) (by simp)
 have g0:bI (H [b20,b21,b22,b23]) 3=b20:=qm [b20,b21,b22,b23] 3 (by simp)
 have g1:bI (H [b20,b21,b22,b23]) 2=b21:=qm [b20,b21,b22,b23] 2 (by simp)
 have g2:bI (H [b20,b21,b22,b23]) 1=b22:=qm [b20,b21,b22,b23] 1 (by simp)
 have g3:bI (H [b20,b21,b22,b23]) 0=b23:=qm [b20,b21,b22,b23] 0 (by simp)
 have g4:bI (H [b28,b29,b30,b31]) 3=b28:=qm [b28,b29,b30,b31] 3 (by simp)
 have g5:bI (H [b28,b29,b30,b31]) 2=b29:=qm [b28,b29,b30,b31] 2 (by simp)
 have g6:bI (H [b28,b29,b30,b31]) 1=b30:=qm [b28,b29,b30,b31] 1 (by simp)
 have g7:bI (H [b28,b29,b30,b31]) 0=b31:=qm [b28,b29,b30,b31] 0 (by simp)
 have g8:bI (H [b17,b18,b19,b24,b25]) 4=b17:=qm [b17,b18,b19,b24,b25] 4 (by simp)
 have g9:bI (H [b17,b18,b19,b24,b25]) 3=b18:=qm [b17,b18,b19,b24,b25] 3 (by simp)
 have g10:bI (H [b17,b18,b19,b24,b25]) 2=b19:=qm [b17,b18,b19,b24,b25] 2 (by simp)
 have g11:bI (H [b17,b18,b19,b24,b25]) 1=b24:=qm [b17,b18,b19,b24,b25] 1 (by simp)
 have g12:bI (H [b17,b18,b19,b24,b25]) 0=b25:=qm [b17,b18,b19,b24,b25] 0 (by simp)
 refine⟨by
   simp[okB]
   try omega
  ,by kernel_rfl,by
   have e:∀rd rn rm ra imm cond:Int,hl (ltr rd rn rm ra imm cond) ((qb (7,false)).take 16)=[true,true,true,false,true,false,true,false,false,true,false,false,true,true,true,true]:=by intro rd rn rm ra imm cond;kernel_rfl
   rw[e]
  ,by
   have e:∀rd rn rm ra imm cond:Int,hl (ltr rd rn rm ra imm cond) ((qb (7,false)).drop 16)=[false,bI imm 4,bI imm 3,bI imm 2,bI rd 3,bI rd 2,bI rd 1,bI rd 0,bI imm 1,bI imm 0,true,false,bI rm 3,bI rm 2,bI rm 1,bI rm 0]:=by intro rd rn rm ra imm cond;kernel_rfl
   rw[e]
   simp only[g8,g9,g10,g0,g1,g2,g3,g11,g12,g4,g5,g6,g7]
  ⟩
theorem qRq (b17 b18 b19 b20 b21 b22 b23 b24 b25 b28 b29 b30 b31:Bool):qF 8 false [true,true,true,false,true,false,true,false,false,true,false,false,true,true,true,true,false,b17,b18,b19,b20,b21,b22,b23,b24,b25,true,true,b28,b29,b30,b31]=(8,H [b20,b21,b22,b23],0,H [b28,b29,b30,b31],0,H [b17,b18,b19,b24,b25],0,false,()):=by
 have e:qF 8 false [true,true,true,false,true,false,true,false,false,true,false,false,true,true,true,true,false,b17,b18,b19,b20,b21,b22,b23,b24,b25,true,true,b28,b29,b30,b31]=(8,H [b20,b21,b22,b23],0,H [b28,b29,b30,b31],0,((qbU [(4,b17),(3,b18),(2,b19),(1,b24),(0,b25)]:Nat):Int),0,false,()):=by kernel_rfl
 have e2:qbU [(4,b17),(3,b18),(2,b19),(1,b24),(0,b25)]=hb [b17,b18,b19,b24,b25] 0:=by simp only[qbU,hb];omega
 rw[e,e2]
 rfl
theorem qSn (b17 b18 b19 b20 b21 b22 b23 b24 b25 b28 b29 b30 b31:Bool) (h0:qT (H [b20,b21,b22,b23])=true) (h1:qT (H [b28,b29,b30,b31])=true) (h2:H [b17,b18,b19,b24,b25] > 0):okB 8 (H [b20,b21,b22,b23]) (0) (H [b28,b29,b30,b31]) (0) (H [b17,b18,b19,b24,b25]) (0) false=true∧(qb (8,false)).length=32∧hl (ltr (H [b20,b21,b22,b23]) (0) (H [b28,b29,b30,b31]) (0) (H [b17,b18,b19,b24,b25]) (0)) ((qb (8,false)).take 16)=[true,true,true,false,true,false,true,false,false,true,false,false,true,true,true,true]∧hl (ltr (H [b20,b21,b22,b23]) (0) (H [b28,b29,b30,b31]) (0) (H [b17,b18,b19,b24,b25]) (0)) ((qb (8,false)).drop 16)=[false,b17,b18,b19,b20,b21,b22,b23,b24,b25,true,true,b28,b29,b30,b31]:=by
 have h0:=qby h0
 have h1:=qby h1
 have:=qO [b20,b21,b22,b23]
 have:H [b20,b21,b22,b23]<16:=qbO (l:=[b20,b21,b22,b23]) (k:=4) (by simp)
 have:=qO [b28,b29,b30,b31]
 have:H [b28,b29,b30,b31]<16:=qbO (l:=[b28,b29,b30,b31]) (k:=4) (by simp)
 have:=qO [b17,b18,b19,b24,b25]
 have:H [b17,b18,b19,b24,b25]<32:=qbO (l:=[b17,b18,b19,b24,b25]) (k:=5) (by simp)
 have g0:bI (H [b20,b21,b22,b23]) 3=b20:=qm [b20,b21,b22,b23] 3 (by simp)
 have g1:bI (H [b20,b21,b22,b23]) 2=b21:=qm [b20,b21,b22,b23] 2 (by simp)
 have g2:bI (H [b20,b21,b22,b23]) 1=b22:=qm [b20,b21,b22,b23] 1 (by simp)
 have g3:bI (H [b20,b21,b22,b23]) 0=b23:=qm [b20,b21,b22,b23] 0 (by simp)
 have g4:bI (H [b28,b29,b30,b31]) 3=b28:=qm [b28,b29,b30,b31] 3 (by simp)
 have g5:bI (H [b28,b29,b30,b31]) 2=b29:=qm [b28,b29,b30,b31] 2 (by simp)
 have g6:bI (H [b28,b29,b30,b31]) 1=b30:=qm [b28,b29,b30,b31] 1 (by simp)
 have g7:bI (H [b28,b29,b30,b31]) 0=b31:=qm [b28,b29,b30,b31] 0 (by simp)
 have g8:bI (H [b17,b18,b19,b24,b25]) 4=b17:=qm [b17,b18,b19,b24,b25] 4 (by simp)
 have g9:bI (H [b17,b18,b19,b24,b25]) 3=b18:=qm [b17,b18,b19,b24,b25] 3 (by simp)
 have g10:bI (H [b17,b18,b19,b24,b25]) 2=b19:=qm [b17,b18,b19,b24,b25] 2 (by simp)
 have g11:bI (H [b17,b18,b19,b24,b25]) 1=b24:=qm [b17,b18,b19,b24,b25] 1 (by simp)
 have g12:bI (H [b17,b18,b19,b24,b25]) 0=b25:=qm [b17,b18,b19,b24,b25] 0 (by simp)
 refine⟨by
   simp[okB]
   try omega
  ,by kernel_rfl,by
   have e:∀rd rn rm ra imm cond:Int,hl (ltr rd rn rm ra imm cond) ((qb (8,false)).take 16)=[true,true,true,false,true,false,true,false,false,true,false,false,true,true,true,true]:=by intro rd rn rm ra imm cond;kernel_rfl
   rw[e]
  ,by
   have e:∀rd rn rm ra imm cond:Int,hl (ltr rd rn rm ra imm cond) ((qb (8,false)).drop 16)=[false,bI imm 4,bI imm 3,bI imm 2,bI rd 3,bI rd 2,bI rd 1,bI rd 0,bI imm 1,bI imm 0,true,true,bI rm 3,bI rm 2,bI rm 1,bI rm 0]:=by intro rd rn rm ra imm cond;kernel_rfl
   rw[e]
   simp only[g8,g9,g10,g0,g1,g2,g3,g11,g12,g4,g5,g6,g7]
  ⟩
theorem qR2 (b20 b21 b22 b23 b28 b29 b30 b31:Bool):qF 9 false [true,true,true,false,true,false,true,false,false,true,true,false,true,true,true,true,false,false,false,false,b20,b21,b22,b23,false,false,false,false,b28,b29,b30,b31]=(9,H [b20,b21,b22,b23],0,H [b28,b29,b30,b31],0,0,0,false,()):=by
 kernel_rfl
theorem qSp (b20 b21 b22 b23 b28 b29 b30 b31:Bool) (h0:qT (H [b20,b21,b22,b23])=true) (h1:qT (H [b28,b29,b30,b31])=true):okB 9 (H [b20,b21,b22,b23]) (0) (H [b28,b29,b30,b31]) (0) (0) (0) false=true∧(qb (9,false)).length=32∧hl (ltr (H [b20,b21,b22,b23]) (0) (H [b28,b29,b30,b31]) (0) (0) (0)) ((qb (9,false)).take 16)=[true,true,true,false,true,false,true,false,false,true,true,false,true,true,true,true]∧hl (ltr (H [b20,b21,b22,b23]) (0) (H [b28,b29,b30,b31]) (0) (0) (0)) ((qb (9,false)).drop 16)=[false,false,false,false,b20,b21,b22,b23,false,false,false,false,b28,b29,b30,b31]:=by
 have h0:=qby h0
 have h1:=qby h1
 have:=qO [b20,b21,b22,b23]
 have:H [b20,b21,b22,b23]<16:=qbO (l:=[b20,b21,b22,b23]) (k:=4) (by simp)
 have:=qO [b28,b29,b30,b31]
 have:H [b28,b29,b30,b31]<16:=qbO (l:=[b28,b29,b30,b31]) (k:=4) (by simp)
 have g0:bI (H [b20,b21,b22,b23]) 3=b20:=qm [b20,b21,b22,b23] 3 (by simp)
 have g1:bI (H [b20,b21,b22,b23]) 2=b21:=qm [b20,b21,b22,b23] 2 (by simp)
 have g2:bI (H [b20,b21,b22,b23]) 1=b22:=qm [b20,b21,b22,b23] 1 (by simp)
 have g3:bI (H [b20,b21,b22,b23]) 0=b23:=qm [b20,b21,b22,b23] 0 (by simp)
 have g4:bI (H [b28,b29,b30,b31]) 3=b28:=qm [b28,b29,b30,b31] 3 (by simp)
 have g5:bI (H [b28,b29,b30,b31]) 2=b29:=qm [b28,b29,b30,b31] 2 (by simp)
 have g6:bI (H [b28,b29,b30,b31]) 1=b30:=qm [b28,b29,b30,b31] 1 (by simp)
 have g7:bI (H [b28,b29,b30,b31]) 0=b31:=qm [b28,b29,b30,b31] 0 (by simp)
 refine⟨by
   simp[okB]
   try omega
  ,by kernel_rfl,by
   have e:∀rd rn rm ra imm cond:Int,hl (ltr rd rn rm ra imm cond) ((qb (9,false)).take 16)=[true,true,true,false,true,false,true,false,false,true,true,false,true,true,true,true]:=by intro rd rn rm ra imm cond;kernel_rfl
   rw[e]
  ,by
   have e:∀rd rn rm ra imm cond:Int,hl (ltr rd rn rm ra imm cond) ((qb (9,false)).drop 16)=[false,false,false,false,bI rd 3,bI rd 2,bI rd 1,bI rd 0,false,false,false,false,bI rm 3,bI rm 2,bI rm 1,bI rm 0]:=by intro rd rn rm ra imm cond;kernel_rfl
   rw[e]
   simp only[g0,g1,g2,g3,g4,g5,g6,g7]
  ⟩
theorem qPq (b12 b13 b14 b15 b20 b21 b22 b23 b28 b29 b30 b31:Bool):qF 10 false [true,true,true,false,true,false,true,false,false,false,false,false,b12,b13,b14,b15,false,false,false,false,b20,b21,b22,b23,false,false,false,false,b28,b29,b30,b31]=(10,H [b20,b21,b22,b23],H [b12,b13,b14,b15],H [b28,b29,b30,b31],0,0,0,false,()):=by
 kernel_rfl
theorem qPB (b12 b13 b14 b15 b20 b21 b22 b23 b28 b29 b30 b31:Bool) (h0:qT (H [b20,b21,b22,b23])=true) (h1:qT (H [b12,b13,b14,b15])=true) (h2:qT (H [b28,b29,b30,b31])=true):okB 10 (H [b20,b21,b22,b23]) (H [b12,b13,b14,b15]) (H [b28,b29,b30,b31]) (0) (0) (0) false=true∧(qb (10,false)).length=32∧hl (ltr (H [b20,b21,b22,b23]) (H [b12,b13,b14,b15]) (H [b28,b29,b30,b31]) (0) (0) (0)) ((qb (10,false)).take 16)=[true,true,true,false,true,false,true,false,false,false,false,false,b12,b13,b14,b15]∧hl (ltr (H [b20,b21,b22,b23]) (H [b12,b13,b14,b15]) (H [b28,b29,b30,b31]) (0) (0) (0)) ((qb (10,false)).drop 16)=[false,false,false,false,b20,b21,b22,b23,false,false,false,false,b28,b29,b30,b31]:=by
 have h0:=qby h0
 have h1:=qby h1
 have h2:=qby h2
 have:=qO [b20,b21,b22,b23]
 have:H [b20,b21,b22,b23]<16:=qbO (l:=[b20,b21,b22,b23]) (k:=4) (by simp)
 have:=qO [b12,b13,b14,b15]
 have:H [b12,b13,b14,b15]<16:=qbO (l:=[b12,b13,b14,b15]) (k:=4) (by simp)
 have:=qO [b28,b29,b30,b31]
 have:H [b28,b29,b30,b31]<16:=qbO (l:=[b28,b29,b30,b31]) (k:=4) (by simp)
 have g0:bI (H [b20,b21,b22,b23]) 3=b20:=qm [b20,b21,b22,b23] 3 (by simp)
 have g1:bI (H [b20,b21,b22,b23]) 2=b21:=qm [b20,b21,b22,b23] 2 (by simp)
 have g2:bI (H [b20,b21,b22,b23]) 1=b22:=qm [b20,b21,b22,b23] 1 (by simp)
 have g3:bI (H [b20,b21,b22,b23]) 0=b23:=qm [b20,b21,b22,b23] 0 (by simp)
 have g4:bI (H [b12,b13,b14,b15]) 3=b12:=qm [b12,b13,b14,b15] 3 (by simp)
 have g5:bI (H [b12,b13,b14,b15]) 2=b13:=qm [b12,b13,b14,b15] 2 (by simp)
 have g6:bI (H [b12,b13,b14,b15]) 1=b14:=qm [b12,b13,b14,b15] 1 (by simp)
 have g7:bI (H [b12,b13,b14,b15]) 0=b15:=qm [b12,b13,b14,b15] 0 (by simp)
 have g8:bI (H [b28,b29,b30,b31]) 3=b28:=qm [b28,b29,b30,b31] 3 (by simp)
 have g9:bI (H [b28,b29,b30,b31]) 2=b29:=qm [b28,b29,b30,b31] 2 (by simp)
 have g10:bI (H [b28,b29,b30,b31]) 1=b30:=qm [b28,b29,b30,b31] 1 (by simp)
 have g11:bI (H [b28,b29,b30,b31]) 0=b31:=qm [b28,b29,b30,b31] 0 (by simp)
 refine⟨by
   simp[okB]
   try omega
  ,by kernel_rfl,by
   have e:∀rd rn rm ra imm cond:Int,hl (ltr rd rn rm ra imm cond) ((qb (10,false)).take 16)=[true,true,true,false,true,false,true,false,false,false,false,false,bI rn 3,bI rn 2,bI rn 1,bI rn 0]:=by intro rd rn rm ra imm cond;kernel_rfl
   rw[e]
   simp only[g4,g5,g6,g7]
  ,by
   have e:∀rd rn rm ra imm cond:Int,hl (ltr rd rn rm ra imm cond) ((qb (10,false)).drop 16)=[false,false,false,false,bI rd 3,bI rd 2,bI rd 1,bI rd 0,false,false,false,false,bI rm 3,bI rm 2,bI rm 1,bI rm 0]:=by intro rd rn rm ra imm cond;kernel_rfl
   rw[e]
   simp only[g0,g1,g2,g3,g8,g9,g10,g11]
  ⟩
theorem qO8 (b12 b13 b14 b15 b20 b21 b22 b23 b28 b29 b30 b31:Bool):qF 11 false [true,true,true,false,true,false,true,false,false,false,true,false,b12,b13,b14,b15,false,false,false,false,b20,b21,b22,b23,false,false,false,false,b28,b29,b30,b31]=(11,H [b20,b21,b22,b23],H [b12,b13,b14,b15],H [b28,b29,b30,b31],0,0,0,false,()):=by
 kernel_rfl
theorem qPu (b12 b13 b14 b15 b20 b21 b22 b23 b28 b29 b30 b31:Bool) (h0:qT (H [b20,b21,b22,b23])=true) (h1:qT (H [b12,b13,b14,b15])=true) (h2:qT (H [b28,b29,b30,b31])=true):okB 11 (H [b20,b21,b22,b23]) (H [b12,b13,b14,b15]) (H [b28,b29,b30,b31]) (0) (0) (0) false=true∧(qb (11,false)).length=32∧hl (ltr (H [b20,b21,b22,b23]) (H [b12,b13,b14,b15]) (H [b28,b29,b30,b31]) (0) (0) (0)) ((qb (11,false)).take 16)=[true,true,true,false,true,false,true,false,false,false,true,false,b12,b13,b14,b15]∧hl (ltr (H [b20,b21,b22,b23]) (H [b12,b13,b14,b15]) (H [b28,b29,b30,b31]) (0) (0) (0)) ((qb (11,false)).drop 16)=[false,false,false,false,b20,b21,b22,b23,false,false,false,false,b28,b29,b30,b31]:=by
 have h0:=qby h0
 have h1:=qby h1
 have h2:=qby h2
 have:=qO [b20,b21,b22,b23]
 have:H [b20,b21,b22,b23]<16:=qbO (l:=[b20,b21,b22,b23]) (k:=4) (by simp)
 have:=qO [b12,b13,b14,b15]
 have:H [b12,b13,b14,b15]<16:=qbO (l:=[b12,b13,b14,b15]) (k:=4) (by simp)
 have:=qO [b28,b29,b30,b31]
 have:H [b28,b29,b30,b31]<16:=qbO (l:=[b28,b29,b30,b31]) (k:=4) (by simp)
 have g0:bI (H [b20,b21,b22,b23]) 3=b20:=qm [b20,b21,b22,b23] 3 (by simp)
 have g1:bI (H [b20,b21,b22,b23]) 2=b21:=qm [b20,b21,b22,b23] 2 (by simp)
 have g2:bI (H [b20,b21,b22,b23]) 1=b22:=qm [b20,b21,b22,b23] 1 (by simp)
 have g3:bI (H [b20,b21,b22,b23]) 0=b23:=qm [b20,b21,b22,b23] 0 (by simp)
 have g4:bI (H [b12,b13,b14,b15]) 3=b12:=qm [b12,b13,b14,b15] 3 (by simp)
 have g5:bI (H [b12,b13,b14,b15]) 2=b13:=qm [b12,b13,b14,b15] 2 (by simp)
 have g6:bI (H [b12,b13,b14,b15]) 1=b14:=qm [b12,b13,b14,b15] 1 (by simp)
 have g7:bI (H [b12,b13,b14,b15]) 0=b15:=qm [b12,b13,b14,b15] 0 (by simp)
 have g8:bI (H [b28,b29,b30,b31]) 3=b28:=qm [b28,b29,b30,b31] 3 (by simp)
 have g9:bI (H [b28,b29,b30,b31]) 2=b29:=qm [b28,b29,b30,b31] 2 (by simp)
 have g10:bI (H [b28,b29,b30,b31]) 1=b30:=qm [b28,b29,b30,b31] 1 (by simp)
 have g11:bI (H [b28,b29,b30,b31]) 0=b31:=qm [b28,b29,b30,b31] 0 (by simp)
 refine⟨by
   simp[okB]
   try omega
  ,by kernel_rfl,by
   have e:∀rd rn rm ra imm cond:Int,hl (ltr rd rn rm ra imm cond) ((qb (11,false)).take 16)=[true,true,true,false,true,false,true,false,false,false,true,false,bI rn 3,bI rn 2,bI rn 1,bI rn 0]:=by intro rd rn rm ra imm cond;kernel_rfl
   rw[e]
   simp only[g4,g5,g6,g7]
  ,by
   have e:∀rd rn rm ra imm cond:Int,hl (ltr rd rn rm ra imm cond) ((qb (11,false)).drop 16)=[false,false,false,false,bI rd 3,bI rd 2,bI rd 1,bI rd 0,false,false,false,false,bI rm 3,bI rm 2,bI rm 1,bI rm 0]:=by intro rd rn rm ra imm cond;kernel_rfl
   rw[e]
   simp only[g0,g1,g2,g3,g8,g9,g10,g11]
  ⟩
theorem qPC (b12 b13 b14 b15 b20 b21 b22 b23 b28 b29 b30 b31:Bool):qF 12 false [true,true,true,false,true,false,true,false,false,true,false,false,b12,b13,b14,b15,false,false,false,false,b20,b21,b22,b23,false,false,false,false,b28,b29,b30,b31]=(12,H [b20,b21,b22,b23],H [b12,b13,b14,b15],H [b28,b29,b30,b31],0,0,0,false,()):=by
 kernel_rfl
theorem qPw (b12 b13 b14 b15 b20 b21 b22 b23 b28 b29 b30 b31:Bool) (h0:qT (H [b20,b21,b22,b23])=true) (h1:qT (H [b12,b13,b14,b15])=true) (h2:qT (H [b28,b29,b30,b31])=true):okB 12 (H [b20,b21,b22,b23]) (H [b12,b13,b14,b15]) (H [b28,b29,b30,b31]) (0) (0) (0) false=true∧(qb (12,false)).length=32∧hl (ltr (H [b20,b21,b22,b23]) (H [b12,b13,b14,b15]) (H [b28,b29,b30,b31]) (0) (0) (0)) ((qb (12,false)).take 16)=[true,true,true,false,true,false,true,false,false,true,false,false,b12,b13,b14,b15]∧hl (ltr (H [b20,b21,b22,b23]) (H [b12,b13,b14,b15]) (H [b28,b29,b30,b31]) (0) (0) (0)) ((qb (12,false)).drop 16)=[false,false,false,false,b20,b21,b22,b23,false,false,false,false,b28,b29,b30,b31]:=by
 have h0:=qby h0
 have h1:=qby h1
 have h2:=qby h2
 have:=qO [b20,b21,b22,b23]
 have:H [b20,b21,b22,b23]<16:=qbO (l:=[b20,b21,b22,b23]) (k:=4) (by simp)
 have:=qO [b12,b13,b14,b15]
 have:H [b12,b13,b14,b15]<16:=qbO (l:=[b12,b13,b14,b15]) (k:=4) (by simp)
 have:=qO [b28,b29,b30,b31]
 have:H [b28,b29,b30,b31]<16:=qbO (l:=[b28,b29,b30,b31]) (k:=4) (by simp)
 have g0:bI (H [b20,b21,b22,b23]) 3=b20:=qm [b20,b21,b22,b23] 3 (by simp)
 have g1:bI (H [b20,b21,b22,b23]) 2=b21:=qm [b20,b21,b22,b23] 2 (by simp)
 have g2:bI (H [b20,b21,b22,b23]) 1=b22:=qm [b20,b21,b22,b23] 1 (by simp)
 have g3:bI (H [b20,b21,b22,b23]) 0=b23:=qm [b20,b21,b22,b23] 0 (by simp)
 have g4:bI (H [b12,b13,b14,b15]) 3=b12:=qm [b12,b13,b14,b15] 3 (by simp)
 have g5:bI (H [b12,b13,b14,b15]) 2=b13:=qm [b12,b13,b14,b15] 2 (by simp)
 have g6:bI (H [b12,b13,b14,b15]) 1=b14:=qm [b12,b13,b14,b15] 1 (by simp)
 have g7:bI (H [b12,b13,b14,b15]) 0=b15:=qm [b12,b13,b14,b15] 0 (by simp)
 have g8:bI (H [b28,b29,b30,b31]) 3=b28:=qm [b28,b29,b30,b31] 3 (by simp)
 have g9:bI (H [b28,b29,b30,b31]) 2=b29:=qm [b28,b29,b30,b31] 2 (by simp)
 have g10:bI (H [b28,b29,b30,b31]) 1=b30:=qm [b28,b29,b30,b31] 1 (by simp)
 have g11:bI (H [b28,b29,b30,b31]) 0=b31:=qm [b28,b29,b30,b31] 0 (by simp)
 refine⟨by
   simp[okB]
   try omega
  ,by kernel_rfl,by
   have e:∀rd rn rm ra imm cond:Int,hl (ltr rd rn rm ra imm cond) ((qb (12,false)).take 16)=[true,true,true,false,true,false,true,false,false,true,false,false,bI rn 3,bI rn 2,bI rn 1,bI rn 0]:=by intro rd rn rm ra imm cond;kernel_rfl
   rw[e]
   simp only[g4,g5,g6,g7]
  ,by
   have e:∀rd rn rm ra imm cond:Int,hl (ltr rd rn rm ra imm cond) ((qb (12,false)).drop 16)=[false,false,false,false,bI rd 3,bI rd 2,bI rd 1,bI rd 0,false,false,false,false,bI rm 3,bI rm 2,bI rm 1,bI rm 0]:=by intro rd rn rm ra imm cond;kernel_rfl
   rw[e]
   simp only[g0,g1,g2,g3,g8,g9,g10,g11]
  ⟩
theorem qO4 (b12 b13 b14 b15 b20 b21 b22 b23 b28 b29 b30 b31:Bool):qF 13 false [true,true,true,false,true,false,true,false,true,false,false,false,b12,b13,b14,b15,false,false,false,false,b20,b21,b22,b23,false,false,false,false,b28,b29,b30,b31]=(13,H [b20,b21,b22,b23],H [b12,b13,b14,b15],H [b28,b29,b30,b31],0,0,0,false,()):=by
 kernel_rfl
theorem qPb (b12 b13 b14 b15 b20 b21 b22 b23 b28 b29 b30 b31:Bool) (h0:qT (H [b20,b21,b22,b23])=true) (h1:qT (H [b12,b13,b14,b15])=true) (h2:qT (H [b28,b29,b30,b31])=true):okB 13 (H [b20,b21,b22,b23]) (H [b12,b13,b14,b15]) (H [b28,b29,b30,b31]) (0) (0) (0) false=true∧(qb (13,false)).length=32∧hl (ltr (H [b20,b21,b22,b23]) (H [b12,b13,b14,b15]) (H [b28,b29,b30,b31]) (0) (0) (0)) ((qb (13,false)).take 16)=[true,true,true,false,true,false,true,false,true,false,false,false,b12,b13,b14,b15]∧hl (ltr (H [b20,b21,b22,b23]) (H [b12,b13,b14,b15]) (H [b28,b29,b30,b31]) (0) (0) (0)) ((qb (13,false)).drop 16)=[false,false,false,false,b20,b21,b22,b23,false,false,false,false,b28,b29,b30,b31]:=by
 have h0:=qby h0
 have h1:=qby h1
 have h2:=qby h2
 have:=qO [b20,b21,b22,b23]
 have:H [b20,b21,b22,b23]<16:=qbO (l:=[b20,b21,b22,b23]) (k:=4) (by simp)
 have:=qO [b12,b13,b14,b15]
 have:H [b12,b13,b14,b15]<16:=qbO (l:=[b12,b13,b14,b15]) (k:=4) (by simp)
 have:=qO [b28,b29,b30,b31]
 have:H [b28,b29,b30,b31]<16:=qbO (l:=[b28,b29,b30,b31]) (k:=4) (by simp)
 have g0:bI (H [b20,b21,b22,b23]) 3=b20:=qm [b20,b21,b22,b23] 3 (by simp)
 have g1:bI (H [b20,b21,b22,b23]) 2=b21:=qm [b20,b21,b22,b23] 2 (by simp)
 have g2:bI (H [b20,b21,b22,b23]) 1=b22:=qm [b20,b21,b22,b23] 1 (by simp)
 have g3:bI (H [b20,b21,b22,b23]) 0=b23:=qm [b20,b21,b22,b23] 0 (by simp)
 have g4:bI (H [b12,b13,b14,b15]) 3=b12:=qm [b12,b13,b14,b15] 3 (by simp)
 have g5:bI (H [b12,b13,b14,b15]) 2=b13:=qm [b12,b13,b14,b15] 2 (by simp)
 have g6:bI (H [b12,b13,b14,b15]) 1=b14:=qm [b12,b13,b14,b15] 1 (by simp)
 have g7:bI (H [b12,b13,b14,b15]) 0=b15:=qm [b12,b13,b14,b15] 0 (by simp)
 have g8:bI (H [b28,b29,b30,b31]) 3=b28:=qm [b28,b29,b30,b31] 3 (by simp)
 have g9:bI (H [b28,b29,b30,b31]) 2=b29:=qm [b28,b29,b30,b31] 2 (by simp)
 have g10:bI (H [b28,b29,b30,b31]) 1=b30:=qm [b28,b29,b30,b31] 1 (by simp)
 have g11:bI (H [b28,b29,b30,b31]) 0=b31:=qm [b28,b29,b30,b31] 0 (by simp)
 refine⟨by
   simp[okB]
   try omega
  ,by kernel_rfl,by
   have e:∀rd rn rm ra imm cond:Int,hl (ltr rd rn rm ra imm cond) ((qb (13,false)).take 16)=[true,true,true,false,true,false,true,false,true,false,false,false,bI rn 3,bI rn 2,bI rn 1,bI rn 0]:=by intro rd rn rm ra imm cond;kernel_rfl
   rw[e]
   simp only[g4,g5,g6,g7]
  ,by
   have e:∀rd rn rm ra imm cond:Int,hl (ltr rd rn rm ra imm cond) ((qb (13,false)).drop 16)=[false,false,false,false,bI rd 3,bI rd 2,bI rd 1,bI rd 0,false,false,false,false,bI rm 3,bI rm 2,bI rm 1,bI rm 0]:=by intro rd rn rm ra imm cond;kernel_rfl
   rw[e]
   simp only[g0,g1,g2,g3,g8,g9,g10,g11]
  ⟩
theorem qPi (b12 b13 b14 b15 b20 b21 b22 b23 b28 b29 b30 b31:Bool):qF 14 false [true,true,true,false,true,false,true,true,false,false,false,false,b12,b13,b14,b15,false,false,false,false,b20,b21,b22,b23,false,false,false,false,b28,b29,b30,b31]=(14,H [b20,b21,b22,b23],H [b12,b13,b14,b15],H [b28,b29,b30,b31],0,0,0,false,()):=by
 kernel_rfl
theorem qPl (b12 b13 b14 b15 b20 b21 b22 b23 b28 b29 b30 b31:Bool) (h0:qT (H [b20,b21,b22,b23])=true) (h1:qT (H [b12,b13,b14,b15])=true) (h2:qT (H [b28,b29,b30,b31])=true):okB 14 (H [b20,b21,b22,b23]) (H [b12,b13,b14,b15]) (H [b28,b29,b30,b31]) (0) (0) (0) false=true∧(qb (14,false)).length=32∧hl (ltr (H [b20,b21,b22,b23]) (H [b12,b13,b14,b15]) (H [b28,b29,b30,b31]) (0) (0) (0)) ((qb (14,false)).take 16)=[true,true,true,false,true,false,true,true,false,false,false,false,b12,b13,b14,b15]∧hl (ltr (H [b20,b21,b22,b23]) (H [b12,b13,b14,b15]) (H [b28,b29,b30,b31]) (0) (0) (0)) ((qb (14,false)).drop 16)=[false,false,false,false,b20,b21,b22,b23,false,false,false,false,b28,b29,b30,b31]:=by
 have h0:=qby h0
 have h1:=qby h1
 have h2:=qby h2
 have:=qO [b20,b21,b22,b23]
 have:H [b20,b21,b22,b23]<16:=qbO (l:=[b20,b21,b22,b23]) (k:=4) (by simp)
 have:=qO [b12,b13,b14,b15]
 have:H [b12,b13,b14,b15]<16:=qbO (l:=[b12,b13,b14,b15]) (k:=4) (by simp)
 have:=qO [b28,b29,b30,b31]
 have:H [b28,b29,b30,b31]<16:=qbO (l:=[b28,b29,b30,b31]) (k:=4) (by simp)
 have g0:bI (H [b20,b21,b22,b23]) 3=b20:=qm [b20,b21,b22,b23] 3 (by simp)
 have g1:bI (H [b20,b21,b22,b23]) 2=b21:=qm [b20,b21,b22,b23] 2 (by simp)
 have g2:bI (H [b20,b21,b22,b23]) 1=b22:=qm [b20,b21,b22,b23] 1 (by simp)
 have g3:bI (H [b20,b21,b22,b23]) 0=b23:=qm [b20,b21,b22,b23] 0 (by simp)
 have g4:bI (H [b12,b13,b14,b15]) 3=b12:=qm [b12,b13,b14,b15] 3 (by simp)
 have g5:bI (H [b12,b13,b14,b15]) 2=b13:=qm [b12,b13,b14,b15] 2 (by simp)
 have g6:bI (H [b12,b13,b14,b15]) 1=b14:=qm [b12,b13,b14,b15] 1 (by simp)
 have g7:bI (H [b12,b13,b14,b15]) 0=b15:=qm [b12,b13,b14,b15] 0 (by simp)
 have g8:bI (H [b28,b29,b30,b31]) 3=b28:=qm [b28,b29,b30,b31] 3 (by simp)
 have g9:bI (H [b28,b29,b30,b31]) 2=b29:=qm [b28,b29,b30,b31] 2 (by simp)
 have g10:bI (H [b28,b29,b30,b31]) 1=b30:=qm [b28,b29,b30,b31] 1 (by simp)
 have g11:bI (H [b28,b29,b30,b31]) 0=b31:=qm [b28,b29,b30,b31] 0 (by simp)
 refine⟨by
   simp[okB]
   try omega
  ,by kernel_rfl,by
   have e:∀rd rn rm ra imm cond:Int,hl (ltr rd rn rm ra imm cond) ((qb (14,false)).take 16)=[true,true,true,false,true,false,true,true,false,false,false,false,bI rn 3,bI rn 2,bI rn 1,bI rn 0]:=by intro rd rn rm ra imm cond;kernel_rfl
   rw[e]
   simp only[g4,g5,g6,g7]
  ,by
   have e:∀rd rn rm ra imm cond:Int,hl (ltr rd rn rm ra imm cond) ((qb (14,false)).drop 16)=[false,false,false,false,bI rd 3,bI rd 2,bI rd 1,bI rd 0,false,false,false,false,bI rm 3,bI rm 2,bI rm 1,bI rm 0]:=by intro rd rn rm ra imm cond;kernel_rfl
   rw[e]
   simp only[g0,g1,g2,g3,g8,g9,g10,g11]
  ⟩
theorem qPo (b12 b13 b14 b15 b20 b21 b22 b23 b28 b29 b30 b31:Bool):qF 15 false [true,true,true,false,true,false,true,true,true,false,true,false,b12,b13,b14,b15,false,false,false,false,b20,b21,b22,b23,false,false,false,false,b28,b29,b30,b31]=(15,H [b20,b21,b22,b23],H [b12,b13,b14,b15],H [b28,b29,b30,b31],0,0,0,false,()):=by
 kernel_rfl
theorem qPn (b12 b13 b14 b15 b20 b21 b22 b23 b28 b29 b30 b31:Bool) (h0:qT (H [b20,b21,b22,b23])=true) (h1:qT (H [b12,b13,b14,b15])=true) (h2:qT (H [b28,b29,b30,b31])=true):okB 15 (H [b20,b21,b22,b23]) (H [b12,b13,b14,b15]) (H [b28,b29,b30,b31]) (0) (0) (0) false=true∧(qb (15,false)).length=32∧hl (ltr (H [b20,b21,b22,b23]) (H [b12,b13,b14,b15]) (H [b28,b29,b30,b31]) (0) (0) (0)) ((qb (15,false)).take 16)=[true,true,true,false,true,false,true,true,true,false,true,false,b12,b13,b14,b15]∧hl (ltr (H [b20,b21,b22,b23]) (H [b12,b13,b14,b15]) (H [b28,b29,b30,b31]) (0) (0) (0)) ((qb (15,false)).drop 16)=[false,false,false,false,b20,b21,b22,b23,false,false,false,false,b28,b29,b30,b31]:=by
 have h0:=qby h0
 have h1:=qby h1
 have h2:=qby h2
 have:=qO [b20,b21,b22,b23]
 have:H [b20,b21,b22,b23]<16:=qbO (l:=[b20,b21,b22,b23]) (k:=4) (by simp)
 have:=qO [b12,b13,b14,b15]
 have:H [b12,b13,b14,b15]<16:=qbO (l:=[b12,b13,b14,b15]) (k:=4) (by simp)
 have:=qO [b28,b29,b30,b31]
 have:H [b28,b29,b30,b31]<16:=qbO (l:=[b28,b29,b30,b31]) (k:=4) (by simp)
 have g0:bI (H [b20,b21,b22,b23]) 3=b20:=qm [b20,b21,b22,b23] 3 (by simp)
 have g1:bI (H [b20,b21,b22,b23]) 2=b21:=qm [b20,b21,b22,b23] 2 (by simp)
 have g2:bI (H [b20,b21,b22,b23]) 1=b22:=qm [b20,b21,b22,b23] 1 (by simp)
 have g3:bI (H [b20,b21,b22,b23]) 0=b23:=qm [b20,b21,b22,b23] 0 (by simp)
 have g4:bI (H [b12,b13,b14,b15]) 3=b12:=qm [b12,b13,b14,b15] 3 (by simp)
 have g5:bI (H [b12,b13,b14,b15]) 2=b13:=qm [b12,b13,b14,b15] 2 (by simp)
 have g6:bI (H [b12,b13,b14,b15]) 1=b14:=qm [b12,b13,b14,b15] 1 (by simp)
 have g7:bI (H [b12,b13,b14,b15]) 0=b15:=qm [b12,b13,b14,b15] 0 (by simp)
 have g8:bI (H [b28,b29,b30,b31]) 3=b28:=qm [b28,b29,b30,b31] 3 (by simp)
 have g9:bI (H [b28,b29,b30,b31]) 2=b29:=qm [b28,b29,b30,b31] 2 (by simp)
 have g10:bI (H [b28,b29,b30,b31]) 1=b30:=qm [b28,b29,b30,b31] 1 (by simp)
 have g11:bI (H [b28,b29,b30,b31]) 0=b31:=qm [b28,b29,b30,b31] 0 (by simp)
 refine⟨by
   simp[okB]
   try omega
  ,by kernel_rfl,by
   have e:∀rd rn rm ra imm cond:Int,hl (ltr rd rn rm ra imm cond) ((qb (15,false)).take 16)=[true,true,true,false,true,false,true,true,true,false,true,false,bI rn 3,bI rn 2,bI rn 1,bI rn 0]:=by intro rd rn rm ra imm cond;kernel_rfl
   rw[e]
   simp only[g4,g5,g6,g7]
  ,by
   have e:∀rd rn rm ra imm cond:Int,hl (ltr rd rn rm ra imm cond) ((qb (15,false)).drop 16)=[false,false,false,false,bI rd 3,bI rd 2,bI rd 1,bI rd 0,false,false,false,false,bI rm 3,bI rm 2,bI rm 1,bI rm 0]:=by intro rd rn rm ra imm cond;kernel_rfl
   rw[e]
   simp only[g0,g1,g2,g3,g8,g9,g10,g11]
  ⟩
theorem qPs (b12 b13 b14 b15 b20 b21 b22 b23 b28 b29 b30 b31:Bool):qF 16 false [true,true,true,true,true,false,true,true,false,false,false,false,b12,b13,b14,b15,true,true,true,true,b20,b21,b22,b23,false,false,false,false,b28,b29,b30,b31]=(16,H [b20,b21,b22,b23],H [b12,b13,b14,b15],H [b28,b29,b30,b31],0,0,0,false,()):=by
 kernel_rfl
theorem qPx (b12 b13 b14 b15 b20 b21 b22 b23 b28 b29 b30 b31:Bool) (h0:qT (H [b20,b21,b22,b23])=true) (h1:qT (H [b12,b13,b14,b15])=true) (h2:qT (H [b28,b29,b30,b31])=true):okB 16 (H [b20,b21,b22,b23]) (H [b12,b13,b14,b15]) (H [b28,b29,b30,b31]) (0) (0) (0) false=true∧(qb (16,false)).length=32∧hl (ltr (H [b20,b21,b22,b23]) (H [b12,b13,b14,b15]) (H [b28,b29,b30,b31]) (0) (0) (0)) ((qb (16,false)).take 16)=[true,true,true,true,true,false,true,true,false,false,false,false,b12,b13,b14,b15]∧hl (ltr (H [b20,b21,b22,b23]) (H [b12,b13,b14,b15]) (H [b28,b29,b30,b31]) (0) (0) (0)) ((qb (16,false)).drop 16)=[true,true,true,true,b20,b21,b22,b23,false,false,false,false,b28,b29,b30,b31]:=by
 have h0:=qby h0
 have h1:=qby h1
 have h2:=qby h2
 have:=qO [b20,b21,b22,b23]
 have:H [b20,b21,b22,b23]<16:=qbO (l:=[b20,b21,b22,b23]) (k:=4) (by simp)
 have:=qO [b12,b13,b14,b15]
 have:H [b12,b13,b14,b15]<16:=qbO (l:=[b12,b13,b14,b15]) (k:=4) (by simp)
 have:=qO [b28,b29,b30,b31]
 have:H [b28,b29,b30,b31]<16:=qbO (l:=[b28,b29,b30,b31]) (k:=4) (by simp)
 have g0:bI (H [b20,b21,b22,b23]) 3=b20:=qm [b20,b21,b22,b23] 3 (by simp)
 have g1:bI (H [b20,b21,b22,b23]) 2=b21:=qm [b20,b21,b22,b23] 2 (by simp)
 have g2:bI (H [b20,b21,b22,b23]) 1=b22:=qm [b20,b21,b22,b23] 1 (by simp)
 have g3:bI (H [b20,b21,b22,b23]) 0=b23:=qm [b20,b21,b22,b23] 0 (by simp)
 have g4:bI (H [b12,b13,b14,b15]) 3=b12:=qm [b12,b13,b14,b15] 3 (by simp)
 have g5:bI (H [b12,b13,b14,b15]) 2=b13:=qm [b12,b13,b14,b15] 2 (by simp)
 have g6:bI (H [b12,b13,b14,b15]) 1=b14:=qm [b12,b13,b14,b15] 1 (by simp)
 have g7:bI (H [b12,b13,b14,b15]) 0=b15:=qm [b12,b13,b14,b15] 0 (by simp)
 have g8:bI (H [b28,b29,b30,b31]) 3=b28:=qm [b28,b29,b30,b31] 3 (by simp)
 have g9:bI (H [b28,b29,b30,b31]) 2=b29:=qm [b28,b29,b30,b31] 2 (by simp)
 have g10:bI (H [b28,b29,b30,b31]) 1=b30:=qm [b28,b29,b30,b31] 1 (by simp)
 have g11:bI (H [b28,b29,b30,b31]) 0=b31:=qm [b28,b29,b30,b31] 0 (by simp)
 refine⟨by
   simp[okB]
   try omega
  ,by kernel_rfl,by
   have e:∀rd rn rm ra imm cond:Int,hl (ltr rd rn rm ra imm cond) ((qb (16,false)).take 16)=[true,true,true,true,true,false,true,true,false,false,false,false,bI rn 3,bI rn 2,bI rn 1,bI rn 0]:=by intro rd rn rm ra imm cond;kernel_rfl
   rw[e]
   simp only[g4,g5,g6,g7]
  ,by
   have e:∀rd rn rm ra imm cond:Int,hl (ltr rd rn rm ra imm cond) ((qb (16,false)).drop 16)=[true,true,true,true,bI rd 3,bI rd 2,bI rd 1,bI rd 0,false,false,false,false,bI rm 3,bI rm 2,bI rm 1,bI rm 0]:=by intro rd rn rm ra imm cond;kernel_rfl
   rw[e]
   simp only[g0,g1,g2,g3,g8,g9,g10,g11]
  ⟩
theorem qO3 (b12 b13 b14 b15 b16 b17 b18 b19 b20 b21 b22 b23 b28 b29 b30 b31:Bool):qF 17 false [true,true,true,true,true,false,true,true,true,false,true,false,b12,b13,b14,b15,b16,b17,b18,b19,b20,b21,b22,b23,false,false,false,false,b28,b29,b30,b31]=(17,H [b16,b17,b18,b19],H [b12,b13,b14,b15],H [b28,b29,b30,b31],H [b20,b21,b22,b23],0,0,false,()):=by
 kernel_rfl
theorem qO0 (b12 b13 b14 b15 b16 b17 b18 b19 b20 b21 b22 b23 b28 b29 b30 b31:Bool) (h0:qT (H [b16,b17,b18,b19])=true) (h1:qT (H [b12,b13,b14,b15])=true) (h2:qT (H [b28,b29,b30,b31])=true) (h3:qT (H [b20,b21,b22,b23])=true) (h4:H [b16,b17,b18,b19]≠H [b20,b21,b22,b23]):okB 17 (H [b16,b17,b18,b19]) (H [b12,b13,b14,b15]) (H [b28,b29,b30,b31]) (H [b20,b21,b22,b23]) (0) (0) false=true∧(qb (17,false)).length=32∧hl (ltr (H [b16,b17,b18,b19]) (H [b12,b13,b14,b15]) (H [b28,b29,b30,b31]) (H [b20,b21,b22,b23]) (0) (0)) ((qb (17,false)).take 16)=[true,true,true,true,true,false,true,true,true,false,true,false,b12,b13,b14,b15]∧hl (ltr (H [b16,b17,b18,b19]) (H [b12,b13,b14,b15]) (H [b28,b29,b30,b31]) (H [b20,b21,b22,b23]) (0) (0)) ((qb (17,false)).drop 16)=[b16,b17,b18,b19,b20,b21,b22,b23,false,false,false,false,b28,b29,b30,b31]:=by
 have h0:=qby h0
 have h1:=qby h1
 have h2:=qby h2
 have h3:=qby h3
 have:=qO [b16,b17,b18,b19]
 have:H [b16,b17,b18,b19]<16:=qbO (l:=[b16,b17,b18,b19]) (k:=4) (by simp)
 have:=qO [b12,b13,b14,b15]
 have:H [b12,b13,b14,b15]<16:=qbO (l:=[b12,b13,b14,b15]) (k:=4) (by simp)
 have:=qO [b28,b29,b30,b31]
 have:H [b28,b29,b30,b31]<16:=qbO (l:=[b28,b29,b30,b31]) (k:=4) (by simp)
 have:=qO [b20,b21,b22,b23]
 have:H [b20,b21,b22,b23]<16:=qbO (l:=[b20,b21,b22,b23]) (k:=4) (by simp)
 have g0:bI (H [b16,b17,b18,b19]) 3=b16:=qm [b16,b17,b18,b19] 3 (by simp)
 have g1:bI (H [b16,b17,b18,b19]) 2=b17:=qm [b16,b17,b18,b19] 2 (by simp)
 have g2:bI (H [b16,b17,b18,b19]) 1=b18:=qm [b16,b17,b18,b19] 1 (by simp)
 have g3:bI (H [b16,b17,b18,b19]) 0=b19:=qm [b16,b17,b18,b19] 0 (by simp)
 have g4:bI (H [b12,b13,b14,b15]) 3=b12:=qm [b12,b13,b14,b15] 3 (by simp)
 have g5:bI (H [b12,b13,b14,b15]) 2=b13:=qm [b12,b13,b14,b15] 2 (by simp)
 have g6:bI (H [b12,b13,b14,b15]) 1=b14:=qm [b12,b13,b14,b15] 1 (by simp)
 have g7:bI (H [b12,b13,b14,b15]) 0=b15:=qm [b12,b13,b14,b15] 0 (by simp)
 have g8:bI (H [b28,b29,b30,b31]) 3=b28:=qm [b28,b29,b30,b31] 3 (by simp)
 have g9:bI (H [b28,b29,b30,b31]) 2=b29:=qm [b28,b29,b30,b31] 2 (by simp)
 have g10:bI (H [b28,b29,b30,b31]) 1=b30:=qm [b28,b29,b30,b31] 1 (by simp)
 have g11:bI (H [b28,b29,b30,b31]) 0=b31:=qm [b28,b29,b30,b31] 0 (by simp)
 have g12:bI (H [b20,b21,b22,b23]) 3=b20:=qm [b20,b21,b22,b23] 3 (by simp)
 have g13:bI (H [b20,b21,b22,b23]) 2=b21:=qm [b20,b21,b22,b23] 2 (by simp)
 have g14:bI (H [b20,b21,b22,b23]) 1=b22:=qm [b20,b21,b22,b23] 1 (by simp)
 have g15:bI (H [b20,b21,b22,b23]) 0=b23:=qm [b20,b21,b22,b23] 0 (by simp)
 refine⟨by
   simp[okB]
   try omega
  ,by kernel_rfl,by
   have e:∀rd rn rm ra imm cond:Int,hl (ltr rd rn rm ra imm cond) ((qb (17,false)).take 16)=[true,true,true,true,true,false,true,true,true,false,true,false,bI rn 3,bI rn 2,bI rn 1,bI rn 0]:=by intro rd rn rm ra imm cond;kernel_rfl
   rw[e]
   simp only[g4,g5,g6,g7]
  ,by
   have e:∀rd rn rm ra imm cond:Int,hl (ltr rd rn rm ra imm cond) ((qb (17,false)).drop 16)=[bI rd 3,bI rd 2,bI rd 1,bI rd 0,bI ra 3,bI ra 2,bI ra 1,bI ra 0,false,false,false,false,bI rm 3,bI rm 2,bI rm 1,bI rm 0]:=by intro rd rn rm ra imm cond;kernel_rfl
   rw[e]
   simp only[g0,g1,g2,g3,g12,g13,g14,g15,g8,g9,g10,g11]
  ⟩
theorem qPy (b12 b13 b14 b15 b17 b18 b19 b20 b21 b22 b23 b24 b25 b27 b28 b29 b30 b31:Bool):qF 18 false [true,true,true,true,false,false,true,true,false,true,true,false,b12,b13,b14,b15,false,b17,b18,b19,b20,b21,b22,b23,b24,b25,false,b27,b28,b29,b30,b31]=(18,H [b20,b21,b22,b23],H [b12,b13,b14,b15],0,H [b27,b28,b29,b30,b31]+1-H [b17,b18,b19,b24,b25],H [b17,b18,b19,b24,b25],0,false,()):=by
 have e:qF 18 false [true,true,true,true,false,false,true,true,false,true,true,false,b12,b13,b14,b15,false,b17,b18,b19,b20,b21,b22,b23,b24,b25,false,b27,b28,b29,b30,b31]=(18,H [b20,b21,b22,b23],H [b12,b13,b14,b15],0,w64 (w64 (H [b27,b28,b29,b30,b31]+1)-((qbU [(4,b17),(3,b18),(2,b19),(1,b24),(0,b25)]:Nat):Int)),((qbU [(4,b17),(3,b18),(2,b19),(1,b24),(0,b25)]:Nat):Int),0,false,()):=by kernel_rfl
 have e2:qbU [(4,b17),(3,b18),(2,b19),(1,b24),(0,b25)]=hb [b17,b18,b19,b24,b25] 0:=by simp only[qbU,hb];omega
 have h1:=qO [b17,b18,b19,b24,b25]
 have h2:H [b17,b18,b19,b24,b25]<32:=qbO (l:=[b17,b18,b19,b24,b25]) (k:=5) (by simp)
 have h3:=qO [b27,b28,b29,b30,b31]
 have h4:H [b27,b28,b29,b30,b31]<32:=qbO (l:=[b27,b28,b29,b30,b31]) (k:=5) (by simp)
 rw[e,e2]
 show(18,H [b20,b21,b22,b23],H [b12,b13,b14,b15],0,w64 (w64 (H [b27,b28,b29,b30,b31]+1)-H [b17,b18,b19,b24,b25]),H [b17,b18,b19,b24,b25],0,false,())=_
 rw[qt (n:=H [b27,b28,b29,b30,b31]+1) (by omega) (by omega),qt (n:=H [b27,b28,b29,b30,b31]+1-H [b17,b18,b19,b24,b25]) (by omega) (by omega)]
theorem qPj (b12 b13 b14 b15 b17 b18 b19 b20 b21 b22 b23 b24 b25 b27 b28 b29 b30 b31:Bool) (h0:qT (H [b20,b21,b22,b23])=true) (h1:qT (H [b12,b13,b14,b15])=true) (h2:H [b27,b28,b29,b30,b31]+1-H [b17,b18,b19,b24,b25]≥1):okB 18 (H [b20,b21,b22,b23]) (H [b12,b13,b14,b15]) (0) (H [b27,b28,b29,b30,b31]+1-H [b17,b18,b19,b24,b25]) (H [b17,b18,b19,b24,b25]) (0) false=true∧(qb (18,false)).length=32∧hl (ltr (H [b20,b21,b22,b23]) (H [b12,b13,b14,b15]) (0) (H [b27,b28,b29,b30,b31]+1-H [b17,b18,b19,b24,b25]) (H [b17,b18,b19,b24,b25]) (0)) ((qb (18,false)).take 16)=[true,true,true,true,false,false,true,true,false,true,true,false,b12,b13,b14,b15]∧hl (ltr (H [b20,b21,b22,b23]) (H [b12,b13,b14,b15]) (0) (H [b27,b28,b29,b30,b31]+1-H [b17,b18,b19,b24,b25]) (H [b17,b18,b19,b24,b25]) (0)) ((qb (18,false)).drop 16)=[false,b17,b18,b19,b20,b21,b22,b23,b24,b25,false,b27,b28,b29,b30,b31]:=by
 have h0:=qby h0
 have h1:=qby h1
 have:=qO [b20,b21,b22,b23]
 have:H [b20,b21,b22,b23]<16:=qbO (l:=[b20,b21,b22,b23]) (k:=4) (by simp)
 have:=qO [b12,b13,b14,b15]
 have:H [b12,b13,b14,b15]<16:=qbO (l:=[b12,b13,b14,b15]) (k:=4) (by simp)
 have:=qO [b17,b18,b19,b24,b25]
 have:H [b17,b18,b19,b24,b25]<32:=qbO (l:=[b17,b18,b19,b24,b25]) (k:=5) (by simp)
 have:=qO [b27,b28,b29,b30,b31]
 have:H [b27,b28,b29,b30,b31]<32:=qbO (l:=[b27,b28,b29,b30,b31]) (k:=5) (by simp)
 have g0:bI (H [b20,b21,b22,b23]) 3=b20:=qm [b20,b21,b22,b23] 3 (by simp)
 have g1:bI (H [b20,b21,b22,b23]) 2=b21:=qm [b20,b21,b22,b23] 2 (by simp)
 have g2:bI (H [b20,b21,b22,b23]) 1=b22:=qm [b20,b21,b22,b23] 1 (by simp)
 have g3:bI (H [b20,b21,b22,b23]) 0=b23:=qm [b20,b21,b22,b23] 0 (by simp)
 have g4:bI (H [b12,b13,b14,b15]) 3=b12:=qm [b12,b13,b14,b15] 3 (by simp)
 have g5:bI (H [b12,b13,b14,b15]) 2=b13:=qm [b12,b13,b14,b15] 2 (by simp)
 have g6:bI (H [b12,b13,b14,b15]) 1=b14:=qm [b12,b13,b14,b15] 1 (by simp)
 have g7:bI (H [b12,b13,b14,b15]) 0=b15:=qm [b12,b13,b14,b15] 0 (by simp)
 have g8:bI (H [b17,b18,b19,b24,b25]) 4=b17:=qm [b17,b18,b19,b24,b25] 4 (by simp)
 have g9:bI (H [b17,b18,b19,b24,b25]) 3=b18:=qm [b17,b18,b19,b24,b25] 3 (by simp)
 have g10:bI (H [b17,b18,b19,b24,b25]) 2=b19:=qm [b17,b18,b19,b24,b25] 2 (by simp)
 have g11:bI (H [b17,b18,b19,b24,b25]) 1=b24:=qm [b17,b18,b19,b24,b25] 1 (by simp)
 have g12:bI (H [b17,b18,b19,b24,b25]) 0=b25:=qm [b17,b18,b19,b24,b25] 0 (by simp)
 have g13:bI (H [b17,b18,b19,b24,b25]+(H [b27,b28,b29,b30,b31]+1-H [b17,b18,b19,b24,b25])-1) 4=b27:=(by rw[show H [b17,b18,b19,b24,b25]+(H [b27,b28,b29,b30,b31]+1-H [b17,b18,b19,b24,b25])-1=H [b27,b28,b29,b30,b31] by omega];exact qm [b27,b28,b29,b30,b31] 4 (by simp))
 have g14:bI (H [b17,b18,b19,b24,b25]+(H [b27,b28,b29,b30,b31]+1-H [b17,b18,b19,b24,b25])-1) 3=b28:=(by rw[show H [b17,b18,b19,b24,b25]+(H [b27,b28,b29,b30,b31]+1-H [b17,b18,b19,b24,b25])-1=H [b27,b28,b29,b30,b31] by omega];exact qm [b27,b28,b29,b30,b31] 3 (by simp))
 have g15:bI (H [b17,b18,b19,b24,b25]+(H [b27,b28,b29,b30,b31]+1-H [b17,b18,b19,b24,b25])-1) 2=b29:=(by rw[show H [b17,b18,b19,b24,b25]+(H [b27,b28,b29,b30,b31]+1-H [b17,b18,b19,b24,b25])-1=H [b27,b28,b29,b30,b31] by omega];exact qm [b27,b28,b29,b30,b31] 2 (by simp))
 have g16:bI (H [b17,b18,b19,b24,b25]+(H [b27,b28,b29,b30,b31]+1-H [b17,b18,b19,b24,b25])-1) 1=b30:=(by rw[show H [b17,b18,b19,b24,b25]+(H [b27,b28,b29,b30,b31]+1-H [b17,b18,b19,b24,b25])-1=H [b27,b28,b29,b30,b31] by omega];exact qm [b27,b28,b29,b30,b31] 1 (by simp))
 have g17:bI (H [b17,b18,b19,b24,b25]+(H [b27,b28,b29,b30,b31]+1-H [b17,b18,b19,b24,b25])-1) 0=b31:=(by rw[show H [b17,b18,b19,b24,b25]+(H [b27,b28,b29,b30,b31]+1-H [b17,b18,b19,b24,b25])-1=H [b27,b28,b29,b30,b31] by omega];exact qm [b27,b28,b29,b30,b31] 0 (by simp))
 refine⟨by
   simp[okB]
   try omega
  ,by kernel_rfl,by
   have e:∀rd rn rm ra imm cond:Int,hl (ltr rd rn rm ra imm cond) ((qb (18,false)).take 16)=[true,true,true,true,false,false,true,true,false,true,true,false,bI rn 3,bI rn 2,bI rn 1,bI rn 0]:=by intro rd rn rm ra imm cond;kernel_rfl
   rw[e]
   simp only[g4,g5,g6,g7]
  ,by
   have e:∀rd rn rm ra imm cond:Int,hl (ltr rd rn rm ra imm cond) ((qb (18,false)).drop 16)=[false,bI imm 4,bI imm 3,bI imm 2,bI rd 3,bI rd 2,bI rd 1,bI rd 0,bI imm 1,bI imm 0,false,bI (imm+ra-1) 4,bI (imm+ra-1) 3,bI (imm+ra-1) 2,bI (imm+ra-1) 1,bI (imm+ra-1) 0]:=by intro rd rn rm ra imm cond;kernel_rfl
   rw[e]
   simp only[g8,g9,g10,g0,g1,g2,g3,g11,g12,g13,g14,g15,g16,g17]
  ⟩
theorem qPm (b10 b11 b12 b13 b14 b15:Bool):qF 19 false [false,true,true,false,true,false,false,false,false,false,b10,b11,b12,b13,b14,b15]=(19,H [b13,b14,b15],H [b10,b11,b12],0,0,0,0,false,()):=by
 kernel_rfl
theorem qO7 (b10 b11 b12 b13 b14 b15:Bool) :okB 19 (H [b13,b14,b15]) (H [b10,b11,b12]) (0) (0) (0) (0) false=true∧(qb (19,false)).length=16∧hl (ltr (H [b13,b14,b15]) (H [b10,b11,b12]) (0) (0) (0) (0)) (qb (19,false))=[false,true,true,false,true,false,false,false,false,false,b10,b11,b12,b13,b14,b15]:=by
 have:=qO [b13,b14,b15]
 have:H [b13,b14,b15]<8:=qbO (l:=[b13,b14,b15]) (k:=3) (by simp)
 have:=qO [b10,b11,b12]
 have:H [b10,b11,b12]<8:=qbO (l:=[b10,b11,b12]) (k:=3) (by simp)
 have g0:bI (H [b13,b14,b15]) 2=b13:=qm [b13,b14,b15] 2 (by simp)
 have g1:bI (H [b13,b14,b15]) 1=b14:=qm [b13,b14,b15] 1 (by simp)
 have g2:bI (H [b13,b14,b15]) 0=b15:=qm [b13,b14,b15] 0 (by simp)
 have g3:bI (H [b10,b11,b12]) 2=b10:=qm [b10,b11,b12] 2 (by simp)
 have g4:bI (H [b10,b11,b12]) 1=b11:=qm [b10,b11,b12] 1 (by simp)
 have g5:bI (H [b10,b11,b12]) 0=b12:=qm [b10,b11,b12] 0 (by simp)
 refine⟨by
   simp[okB]
   try omega
  ,by kernel_rfl,by
   have e:∀rd rn rm ra imm cond:Int,hl (ltr rd rn rm ra imm cond) (qb (19,false))=[false,true,true,false,true,false,false,false,false,false,bI rn 2,bI rn 1,bI rn 0,bI rd 2,bI rd 1,bI rd 0]:=by intro rd rn rm ra imm cond;kernel_rfl
   rw[e]
   simp only[g3,g4,g5,g0,g1,g2]
  ⟩
theorem qPk (b10 b11 b12 b13 b14 b15:Bool):qF 20 false [false,true,true,false,false,false,false,false,false,false,b10,b11,b12,b13,b14,b15]=(20,H [b13,b14,b15],H [b10,b11,b12],0,0,0,0,false,()):=by
 kernel_rfl
theorem qPc (b10 b11 b12 b13 b14 b15:Bool) :okB 20 (H [b13,b14,b15]) (H [b10,b11,b12]) (0) (0) (0) (0) false=true∧(qb (20,false)).length=16∧hl (ltr (H [b13,b14,b15]) (H [b10,b11,b12]) (0) (0) (0) (0)) (qb (20,false))=[false,true,true,false,false,false,false,false,false,false,b10,b11,b12,b13,b14,b15]:=by
 have:=qO [b13,b14,b15]
 have:H [b13,b14,b15]<8:=qbO (l:=[b13,b14,b15]) (k:=3) (by simp)
 have:=qO [b10,b11,b12]
 have:H [b10,b11,b12]<8:=qbO (l:=[b10,b11,b12]) (k:=3) (by simp)
 have g0:bI (H [b13,b14,b15]) 2=b13:=qm [b13,b14,b15] 2 (by simp)
 have g1:bI (H [b13,b14,b15]) 1=b14:=qm [b13,b14,b15] 1 (by simp)
 have g2:bI (H [b13,b14,b15]) 0=b15:=qm [b13,b14,b15] 0 (by simp)
 have g3:bI (H [b10,b11,b12]) 2=b10:=qm [b10,b11,b12] 2 (by simp)
 have g4:bI (H [b10,b11,b12]) 1=b11:=qm [b10,b11,b12] 1 (by simp)
 have g5:bI (H [b10,b11,b12]) 0=b12:=qm [b10,b11,b12] 0 (by simp)
 refine⟨by
   simp[okB]
   try omega
  ,by kernel_rfl,by
   have e:∀rd rn rm ra imm cond:Int,hl (ltr rd rn rm ra imm cond) (qb (20,false))=[false,true,true,false,false,false,false,false,false,false,bI rn 2,bI rn 1,bI rn 0,bI rd 2,bI rd 1,bI rd 0]:=by intro rd rn rm ra imm cond;kernel_rfl
   rw[e]
   simp only[g3,g4,g5,g0,g1,g2]
  ⟩
theorem qO1 (b10 b11 b12 b13 b14 b15:Bool):qF 21 false [false,true,true,true,true,false,false,false,false,false,b10,b11,b12,b13,b14,b15]=(21,H [b13,b14,b15],H [b10,b11,b12],0,0,0,0,false,()):=by
 kernel_rfl
theorem qPv (b10 b11 b12 b13 b14 b15:Bool) :okB 21 (H [b13,b14,b15]) (H [b10,b11,b12]) (0) (0) (0) (0) false=true∧(qb (21,false)).length=16∧hl (ltr (H [b13,b14,b15]) (H [b10,b11,b12]) (0) (0) (0) (0)) (qb (21,false))=[false,true,true,true,true,false,false,false,false,false,b10,b11,b12,b13,b14,b15]:=by
 have:=qO [b13,b14,b15]
 have:H [b13,b14,b15]<8:=qbO (l:=[b13,b14,b15]) (k:=3) (by simp)
 have:=qO [b10,b11,b12]
 have:H [b10,b11,b12]<8:=qbO (l:=[b10,b11,b12]) (k:=3) (by simp)
 have g0:bI (H [b13,b14,b15]) 2=b13:=qm [b13,b14,b15] 2 (by simp)
 have g1:bI (H [b13,b14,b15]) 1=b14:=qm [b13,b14,b15] 1 (by simp)
 have g2:bI (H [b13,b14,b15]) 0=b15:=qm [b13,b14,b15] 0 (by simp)
 have g3:bI (H [b10,b11,b12]) 2=b10:=qm [b10,b11,b12] 2 (by simp)
 have g4:bI (H [b10,b11,b12]) 1=b11:=qm [b10,b11,b12] 1 (by simp)
 have g5:bI (H [b10,b11,b12]) 0=b12:=qm [b10,b11,b12] 0 (by simp)
 refine⟨by
   simp[okB]
   try omega
  ,by kernel_rfl,by
   have e:∀rd rn rm ra imm cond:Int,hl (ltr rd rn rm ra imm cond) (qb (21,false))=[false,true,true,true,true,false,false,false,false,false,bI rn 2,bI rn 1,bI rn 0,bI rd 2,bI rd 1,bI rd 0]:=by intro rd rn rm ra imm cond;kernel_rfl
   rw[e]
   simp only[g3,g4,g5,g0,g1,g2]
  ⟩
theorem qPh (b10 b11 b12 b13 b14 b15:Bool):qF 22 false [false,true,true,true,false,false,false,false,false,false,b10,b11,b12,b13,b14,b15]=(22,H [b13,b14,b15],H [b10,b11,b12],0,0,0,0,false,()):=by
 kernel_rfl
theorem qPA (b10 b11 b12 b13 b14 b15:Bool) :okB 22 (H [b13,b14,b15]) (H [b10,b11,b12]) (0) (0) (0) (0) false=true∧(qb (22,false)).length=16∧hl (ltr (H [b13,b14,b15]) (H [b10,b11,b12]) (0) (0) (0) (0)) (qb (22,false))=[false,true,true,true,false,false,false,false,false,false,b10,b11,b12,b13,b14,b15]:=by
 have:=qO [b13,b14,b15]
 have:H [b13,b14,b15]<8:=qbO (l:=[b13,b14,b15]) (k:=3) (by simp)
 have:=qO [b10,b11,b12]
 have:H [b10,b11,b12]<8:=qbO (l:=[b10,b11,b12]) (k:=3) (by simp)
 have g0:bI (H [b13,b14,b15]) 2=b13:=qm [b13,b14,b15] 2 (by simp)
 have g1:bI (H [b13,b14,b15]) 1=b14:=qm [b13,b14,b15] 1 (by simp)
 have g2:bI (H [b13,b14,b15]) 0=b15:=qm [b13,b14,b15] 0 (by simp)
 have g3:bI (H [b10,b11,b12]) 2=b10:=qm [b10,b11,b12] 2 (by simp)
 have g4:bI (H [b10,b11,b12]) 1=b11:=qm [b10,b11,b12] 1 (by simp)
 have g5:bI (H [b10,b11,b12]) 0=b12:=qm [b10,b11,b12] 0 (by simp)
 refine⟨by
   simp[okB]
   try omega
  ,by kernel_rfl,by
   have e:∀rd rn rm ra imm cond:Int,hl (ltr rd rn rm ra imm cond) (qb (22,false))=[false,true,true,true,false,false,false,false,false,false,bI rn 2,bI rn 1,bI rn 0,bI rd 2,bI rd 1,bI rd 0]:=by intro rd rn rm ra imm cond;kernel_rfl
   rw[e]
   simp only[g3,g4,g5,g0,g1,g2]
  ⟩
theorem qO2 (b10 b11 b12 b13 b14 b15:Bool):qF 23 false [false,true,false,false,false,false,true,false,true,false,b10,b11,b12,b13,b14,b15]=(23,0,H [b13,b14,b15],H [b10,b11,b12],0,0,0,false,()):=by
 kernel_rfl
theorem qO6 (b10 b11 b12 b13 b14 b15:Bool) :okB 23 (0) (H [b13,b14,b15]) (H [b10,b11,b12]) (0) (0) (0) false=true∧(qb (23,false)).length=16∧hl (ltr (0) (H [b13,b14,b15]) (H [b10,b11,b12]) (0) (0) (0)) (qb (23,false))=[false,true,false,false,false,false,true,false,true,false,b10,b11,b12,b13,b14,b15]:=by
 have:=qO [b13,b14,b15]
 have:H [b13,b14,b15]<8:=qbO (l:=[b13,b14,b15]) (k:=3) (by simp)
 have:=qO [b10,b11,b12]
 have:H [b10,b11,b12]<8:=qbO (l:=[b10,b11,b12]) (k:=3) (by simp)
 have g0:bI (H [b13,b14,b15]) 2=b13:=qm [b13,b14,b15] 2 (by simp)
 have g1:bI (H [b13,b14,b15]) 1=b14:=qm [b13,b14,b15] 1 (by simp)
 have g2:bI (H [b13,b14,b15]) 0=b15:=qm [b13,b14,b15] 0 (by simp)
 have g3:bI (H [b10,b11,b12]) 2=b10:=qm [b10,b11,b12] 2 (by simp)
 have g4:bI (H [b10,b11,b12]) 1=b11:=qm [b10,b11,b12] 1 (by simp)
 have g5:bI (H [b10,b11,b12]) 0=b12:=qm [b10,b11,b12] 0 (by simp)
 refine⟨by
   simp[okB]
   try omega
  ,by kernel_rfl,by
   have e:∀rd rn rm ra imm cond:Int,hl (ltr rd rn rm ra imm cond) (qb (23,false))=[false,true,false,false,false,false,true,false,true,false,bI rm 2,bI rm 1,bI rm 0,bI rn 2,bI rn 1,bI rn 0]:=by intro rd rn rm ra imm cond;kernel_rfl
   rw[e]
   simp only[g3,g4,g5,g0,g1,g2]
  ⟩
theorem qO5 (b5 b6 b7 b8 b9 b10 b11 b12 b13 b14 b15:Bool):qF 24 false [true,true,true,false,false,b5,b6,b7,b8,b9,b10,b11,b12,b13,b14,b15]=(24,0,0,0,0,SG [b5,b6,b7,b8,b9,b10,b11,b12,b13,b14,b15,false],0,false,()):=by
 have e:qF 24 false [true,true,true,false,false,b5,b6,b7,b8,b9,b10,b11,b12,b13,b14,b15]=(24,0,0,0,0,qL (((qbU [(11,b5),(10,b6),(9,b7),(8,b8),(7,b9),(6,b10),(5,b11),(4,b12),(3,b13),(2,b14),(1,b15)]:Nat):Int),11),0,false,()):=by kernel_rfl
 have e2:qbU [(11,b5),(10,b6),(9,b7),(8,b8),(7,b9),(6,b10),(5,b11),(4,b12),(3,b13),(2,b14),(1,b15)]=hb [b5,b6,b7,b8,b9,b10,b11,b12,b13,b14,b15,false] 0:=by
  simp only[qbU,hb,Bool.toNat_false,Nat.reducePow,Nat.mul_zero,Nat.zero_add,Nat.add_zero]
  omega
 rw[e,e2]
 have e3:qL (((hb [b5,b6,b7,b8,b9,b10,b11,b12,b13,b14,b15,false] 0:Nat):Int),11)=SG [b5,b6,b7,b8,b9,b10,b11,b12,b13,b14,b15,false]:=qx4 b5 [b6,b7,b8,b9,b10,b11,b12,b13,b14,b15,false]
 rw[e3]
theorem qPd (b5 b6 b7 b8 b9 b10 b11 b12 b13 b14 b15:Bool) :okB 24 (0) (0) (0) (0) (SG [b5,b6,b7,b8,b9,b10,b11,b12,b13,b14,b15,false]) (0) false=true∧(qb (24,false)).length=16∧hl (ltr (0) (0) (0) (0) (SG [b5,b6,b7,b8,b9,b10,b11,b12,b13,b14,b15,false]) (0)) (qb (24,false))=[true,true,true,false,false,b5,b6,b7,b8,b9,b10,b11,b12,b13,b14,b15]:=by
 have:=qyc b5 [b6,b7,b8,b9,b10,b11,b12,b13,b14,b15]
 have hev:SG [b5,b6,b7,b8,b9,b10,b11,b12,b13,b14,b15,false] % 2=0:=this
 have hlt:-2048≤SG [b5,b6,b7,b8,b9,b10,b11,b12,b13,b14,b15,false]∧SG [b5,b6,b7,b8,b9,b10,b11,b12,b13,b14,b15,false]<2048:=qGS b5 [b6,b7,b8,b9,b10,b11,b12,b13,b14,b15,false] 11 (by simp)
 have g0:bI (SG [b5,b6,b7,b8,b9,b10,b11,b12,b13,b14,b15,false]) 11=b5:=qbA b5 [b6,b7,b8,b9,b10,b11,b12,b13,b14,b15,false] 11 (by simp)
 have g1:bI (SG [b5,b6,b7,b8,b9,b10,b11,b12,b13,b14,b15,false]) 10=b6:=qbA b5 [b6,b7,b8,b9,b10,b11,b12,b13,b14,b15,false] 10 (by simp)
 have g2:bI (SG [b5,b6,b7,b8,b9,b10,b11,b12,b13,b14,b15,false]) 9=b7:=qbA b5 [b6,b7,b8,b9,b10,b11,b12,b13,b14,b15,false] 9 (by simp)
 have g3:bI (SG [b5,b6,b7,b8,b9,b10,b11,b12,b13,b14,b15,false]) 8=b8:=qbA b5 [b6,b7,b8,b9,b10,b11,b12,b13,b14,b15,false] 8 (by simp)
 have g4:bI (SG [b5,b6,b7,b8,b9,b10,b11,b12,b13,b14,b15,false]) 7=b9:=qbA b5 [b6,b7,b8,b9,b10,b11,b12,b13,b14,b15,false] 7 (by simp)
 have g5:bI (SG [b5,b6,b7,b8,b9,b10,b11,b12,b13,b14,b15,false]) 6=b10:=qbA b5 [b6,b7,b8,b9,b10,b11,b12,b13,b14,b15,false] 6 (by simp)
 have g6:bI (SG [b5,b6,b7,b8,b9,b10,b11,b12,b13,b14,b15,false]) 5=b11:=qbA b5 [b6,b7,b8,b9,b10,b11,b12,b13,b14,b15,false] 5 (by simp)
 have g7:bI (SG [b5,b6,b7,b8,b9,b10,b11,b12,b13,b14,b15,false]) 4=b12:=qbA b5 [b6,b7,b8,b9,b10,b11,b12,b13,b14,b15,false] 4 (by simp)
 have g8:bI (SG [b5,b6,b7,b8,b9,b10,b11,b12,b13,b14,b15,false]) 3=b13:=qbA b5 [b6,b7,b8,b9,b10,b11,b12,b13,b14,b15,false] 3 (by simp)
 have g9:bI (SG [b5,b6,b7,b8,b9,b10,b11,b12,b13,b14,b15,false]) 2=b14:=qbA b5 [b6,b7,b8,b9,b10,b11,b12,b13,b14,b15,false] 2 (by simp)
 have g10:bI (SG [b5,b6,b7,b8,b9,b10,b11,b12,b13,b14,b15,false]) 1=b15:=qbA b5 [b6,b7,b8,b9,b10,b11,b12,b13,b14,b15,false] 1 (by simp)
 refine⟨by
   simp[okB]
   try omega
  ,by kernel_rfl,by
   have e:∀rd rn rm ra imm cond:Int,hl (ltr rd rn rm ra imm cond) (qb (24,false))=[true,true,true,false,false,bI imm 11,bI imm 10,bI imm 9,bI imm 8,bI imm 7,bI imm 6,bI imm 5,bI imm 4,bI imm 3,bI imm 2,bI imm 1]:=by intro rd rn rm ra imm cond;kernel_rfl
   rw[e]
   simp only[g0,g1,g2,g3,g4,g5,g6,g7,g8,g9,g10]
  ⟩
theorem qNv (b5 b6 b7 b8 b9 b10 b11 b12 b13 b14 b15 b18 b20 b21 b22 b23 b24 b25 b26 b27 b28 b29 b30 b31:Bool):qF 24 true [true,true,true,true,false,b5,b6,b7,b8,b9,b10,b11,b12,b13,b14,b15,true,false,b18,true,b20,b21,b22,b23,b24,b25,b26,b27,b28,b29,b30,b31]=(24,0,0,0,0,SG [b5,nx b18 b5,nx b20 b5,b6,b7,b8,b9,b10,b11,b12,b13,b14,b15,b21,b22,b23,b24,b25,b26,b27,b28,b29,b30,b31,false],0,true,()):=by
 have e:qF 24 true [true,true,true,true,false,b5,b6,b7,b8,b9,b10,b11,b12,b13,b14,b15,true,false,b18,true,b20,b21,b22,b23,b24,b25,b26,b27,b28,b29,b30,b31]=(24,0,0,0,0,qL (w64 (w64 (((qbU [(24,b5),(21,b6),(20,b7),(19,b8),(18,b9),(17,b10),(16,b11),(15,b12),(14,b13),(13,b14),(12,b15),(11,b21),(10,b22),(9,b23),(8,b24),(7,b25),(6,b26),(5,b27),(4,b28),(3,b29),(2,b30),(1,b31)]:Nat):Int)+w64 (Int.tmod (w64 (w64 (bN b18+bN b5)+1)) 2*8388608))+w64 (Int.tmod (w64 (w64 (bN b20+bN b5)+1)) 2*4194304)),24),0,true,()):=by kernel_rfl
 have:=Bool.toNat_le b5
 have:=Bool.toNat_le b6
 have:=Bool.toNat_le b7
 have:=Bool.toNat_le b8
 have:=Bool.toNat_le b9
 have:=Bool.toNat_le b10
 have:=Bool.toNat_le b11
 have:=Bool.toNat_le b12
 have:=Bool.toNat_le b13
 have:=Bool.toNat_le b14
 have:=Bool.toNat_le b15
 have:=Bool.toNat_le b21
 have:=Bool.toNat_le b22
 have:=Bool.toNat_le b23
 have:=Bool.toNat_le b24
 have:=Bool.toNat_le b25
 have:=Bool.toNat_le b26
 have:=Bool.toNat_le b27
 have:=Bool.toNat_le b28
 have:=Bool.toNat_le b29
 have:=Bool.toNat_le b30
 have:=Bool.toNat_le b31
 have e2:w64 (w64 (((qbU [(24,b5),(21,b6),(20,b7),(19,b8),(18,b9),(17,b10),(16,b11),(15,b12),(14,b13),(13,b14),(12,b15),(11,b21),(10,b22),(9,b23),(8,b24),(7,b25),(6,b26),(5,b27),(4,b28),(3,b29),(2,b30),(1,b31)]:Nat):Int)+w64 (Int.tmod (w64 (w64 (bN b18+bN b5)+1)) 2*8388608))+w64 (Int.tmod (w64 (w64 (bN b20+bN b5)+1)) 2*4194304))=((hb [b5,nx b18 b5,nx b20 b5,b6,b7,b8,b9,b10,b11,b12,b13,b14,b15,b21,b22,b23,b24,b25,b26,b27,b28,b29,b30,b31,false] 0:Nat):Int):=by
  rw[qST (qbU [(24,b5),(21,b6),(20,b7),(19,b8),(18,b9),(17,b10),(16,b11),(15,b12),(14,b13),(13,b14),(12,b15),(11,b21),(10,b22),(9,b23),(8,b24),(7,b25),(6,b26),(5,b27),(4,b28),(3,b29),(2,b30),(1,b31)]) (by simp only[qbU];omega) b18 b20 b5]
  refine congrArg Nat.cast ?_
  simp only[qbU,hb,Bool.toNat_false]
  omega
 rw[e,e2]
 have e3:qL (((hb [b5,nx b18 b5,nx b20 b5,b6,b7,b8,b9,b10,b11,b12,b13,b14,b15,b21,b22,b23,b24,b25,b26,b27,b28,b29,b30,b31,false] 0:Nat):Int),24)=SG [b5,nx b18 b5,nx b20 b5,b6,b7,b8,b9,b10,b11,b12,b13,b14,b15,b21,b22,b23,b24,b25,b26,b27,b28,b29,b30,b31,false]:=qx4 b5 [nx b18 b5,nx b20 b5,b6,b7,b8,b9,b10,b11,b12,b13,b14,b15,b21,b22,b23,b24,b25,b26,b27,b28,b29,b30,b31,false]
 rw[e3]
theorem qNn (b5 b6 b7 b8 b9 b10 b11 b12 b13 b14 b15 b18 b20 b21 b22 b23 b24 b25 b26 b27 b28 b29 b30 b31:Bool) :okB 24 (0) (0) (0) (0) (SG [b5,nx b18 b5,nx b20 b5,b6,b7,b8,b9,b10,b11,b12,b13,b14,b15,b21,b22,b23,b24,b25,b26,b27,b28,b29,b30,b31,false]) (0) true=true∧(qb (24,true)).length=32∧hl (ltr (0) (0) (0) (0) (SG [b5,nx b18 b5,nx b20 b5,b6,b7,b8,b9,b10,b11,b12,b13,b14,b15,b21,b22,b23,b24,b25,b26,b27,b28,b29,b30,b31,false]) (0)) ((qb (24,true)).take 16)=[true,true,true,true,false,b5,b6,b7,b8,b9,b10,b11,b12,b13,b14,b15]∧hl (ltr (0) (0) (0) (0) (SG [b5,nx b18 b5,nx b20 b5,b6,b7,b8,b9,b10,b11,b12,b13,b14,b15,b21,b22,b23,b24,b25,b26,b27,b28,b29,b30,b31,false]) (0)) ((qb (24,true)).drop 16)=[true,false,b18,true,b20,b21,b22,b23,b24,b25,b26,b27,b28,b29,b30,b31]:=by
 have:=qyc b5 [nx b18 b5,nx b20 b5,b6,b7,b8,b9,b10,b11,b12,b13,b14,b15,b21,b22,b23,b24,b25,b26,b27,b28,b29,b30,b31]
 have hev:SG [b5,nx b18 b5,nx b20 b5,b6,b7,b8,b9,b10,b11,b12,b13,b14,b15,b21,b22,b23,b24,b25,b26,b27,b28,b29,b30,b31,false] % 2=0:=this
 have hlt:-16777216≤SG [b5,nx b18 b5,nx b20 b5,b6,b7,b8,b9,b10,b11,b12,b13,b14,b15,b21,b22,b23,b24,b25,b26,b27,b28,b29,b30,b31,false]∧SG [b5,nx b18 b5,nx b20 b5,b6,b7,b8,b9,b10,b11,b12,b13,b14,b15,b21,b22,b23,b24,b25,b26,b27,b28,b29,b30,b31,false]<16777216:=qGS b5 [nx b18 b5,nx b20 b5,b6,b7,b8,b9,b10,b11,b12,b13,b14,b15,b21,b22,b23,b24,b25,b26,b27,b28,b29,b30,b31,false] 24 (by simp)
 have g0:bI (SG [b5,nx b18 b5,nx b20 b5,b6,b7,b8,b9,b10,b11,b12,b13,b14,b15,b21,b22,b23,b24,b25,b26,b27,b28,b29,b30,b31,false]) 24=b5:=qbA b5 [nx b18 b5,nx b20 b5,b6,b7,b8,b9,b10,b11,b12,b13,b14,b15,b21,b22,b23,b24,b25,b26,b27,b28,b29,b30,b31,false] 24 (by simp)
 have g1:bI (SG [b5,nx b18 b5,nx b20 b5,b6,b7,b8,b9,b10,b11,b12,b13,b14,b15,b21,b22,b23,b24,b25,b26,b27,b28,b29,b30,b31,false]) 23=nx b18 b5:=qbA b5 [nx b18 b5,nx b20 b5,b6,b7,b8,b9,b10,b11,b12,b13,b14,b15,b21,b22,b23,b24,b25,b26,b27,b28,b29,b30,b31,false] 23 (by simp)
 have g2:bI (SG [b5,nx b18 b5,nx b20 b5,b6,b7,b8,b9,b10,b11,b12,b13,b14,b15,b21,b22,b23,b24,b25,b26,b27,b28,b29,b30,b31,false]) 22=nx b20 b5:=qbA b5 [nx b18 b5,nx b20 b5,b6,b7,b8,b9,b10,b11,b12,b13,b14,b15,b21,b22,b23,b24,b25,b26,b27,b28,b29,b30,b31,false] 22 (by simp)
 have g3:bI (SG [b5,nx b18 b5,nx b20 b5,b6,b7,b8,b9,b10,b11,b12,b13,b14,b15,b21,b22,b23,b24,b25,b26,b27,b28,b29,b30,b31,false]) 21=b6:=qbA b5 [nx b18 b5,nx b20 b5,b6,b7,b8,b9,b10,b11,b12,b13,b14,b15,b21,b22,b23,b24,b25,b26,b27,b28,b29,b30,b31,false] 21 (by simp)
 have g4:bI (SG [b5,nx b18 b5,nx b20 b5,b6,b7,b8,b9,b10,b11,b12,b13,b14,b15,b21,b22,b23,b24,b25,b26,b27,b28,b29,b30,b31,false]) 20=b7:=qbA b5 [nx b18 b5,nx b20 b5,b6,b7,b8,b9,b10,b11,b12,b13,b14,b15,b21,b22,b23,b24,b25,b26,b27,b28,b29,b30,b31,false] 20 (by simp)
 have g5:bI (SG [b5,nx b18 b5,nx b20 b5,b6,b7,b8,b9,b10,b11,b12,b13,b14,b15,b21,b22,b23,b24,b25,b26,b27,b28,b29,b30,b31,false]) 19=b8:=qbA b5 [nx b18 b5,nx b20 b5,b6,b7,b8,b9,b10,b11,b12,b13,b14,b15,b21,b22,b23,b24,b25,b26,b27,b28,b29,b30,b31,false] 19 (by simp)
 have g6:bI (SG [b5,nx b18 b5,nx b20 b5,b6,b7,b8,b9,b10,b11,b12,b13,b14,b15,b21,b22,b23,b24,b25,b26,b27,b28,b29,b30,b31,false]) 18=b9:=qbA b5 [nx b18 b5,nx b20 b5,b6,b7,b8,b9,b10,b11,b12,b13,b14,b15,b21,b22,b23,b24,b25,b26,b27,b28,b29,b30,b31,false] 18 (by simp)
 have g7:bI (SG [b5,nx b18 b5,nx b20 b5,b6,b7,b8,b9,b10,b11,b12,b13,b14,b15,b21,b22,b23,b24,b25,b26,b27,b28,b29,b30,b31,false]) 17=b10:=qbA b5 [nx b18 b5,nx b20 b5,b6,b7,b8,b9,b10,b11,b12,b13,b14,b15,b21,b22,b23,b24,b25,b26,b27,b28,b29,b30,b31,false] 17 (by simp)
 have g8:bI (SG [b5,nx b18 b5,nx b20 b5,b6,b7,b8,b9,b10,b11,b12,b13,b14,b15,b21,b22,b23,b24,b25,b26,b27,b28,b29,b30,b31,false]) 16=b11:=qbA b5 [nx b18 b5,nx b20 b5,b6,b7,b8,b9,b10,b11,b12,b13,b14,b15,b21,b22,b23,b24,b25,b26,b27,b28,b29,b30,b31,false] 16 (by simp)
 have g9:bI (SG [b5,nx b18 b5,nx b20 b5,b6,b7,b8,b9,b10,b11,b12,b13,b14,b15,b21,b22,b23,b24,b25,b26,b27,b28,b29,b30,b31,false]) 15=b12:=qbA b5 [nx b18 b5,nx b20 b5,b6,b7,b8,b9,b10,b11,b12,b13,b14,b15,b21,b22,b23,b24,b25,b26,b27,b28,b29,b30,b31,false] 15 (by simp)
 have g10:bI (SG [b5,nx b18 b5,nx b20 b5,b6,b7,b8,b9,b10,b11,b12,b13,b14,b15,b21,b22,b23,b24,b25,b26,b27,b28,b29,b30,b31,false]) 14=b13:=qbA b5 [nx b18 b5,nx b20 b5,b6,b7,b8,b9,b10,b11,b12,b13,b14,b15,b21,b22,b23,b24,b25,b26,b27,b28,b29,b30,b31,false] 14 (by simp)
 have g11:bI (SG [b5,nx b18 b5,nx b20 b5,b6,b7,b8,b9,b10,b11,b12,b13,b14,b15,b21,b22,b23,b24,b25,b26,b27,b28,b29,b30,b31,false]) 13=b14:=qbA b5 [nx b18 b5,nx b20 b5,b6,b7,b8,b9,b10,b11,b12,b13,b14,b15,b21,b22,b23,b24,b25,b26,b27,b28,b29,b30,b31,false] 13 (by simp)
 have g12:bI (SG [b5,nx b18 b5,nx b20 b5,b6,b7,b8,b9,b10,b11,b12,b13,b14,b15,b21,b22,b23,b24,b25,b26,b27,b28,b29,b30,b31,false]) 12=b15:=qbA b5 [nx b18 b5,nx b20 b5,b6,b7,b8,b9,b10,b11,b12,b13,b14,b15,b21,b22,b23,b24,b25,b26,b27,b28,b29,b30,b31,false] 12 (by simp)
 have g13:bI (SG [b5,nx b18 b5,nx b20 b5,b6,b7,b8,b9,b10,b11,b12,b13,b14,b15,b21,b22,b23,b24,b25,b26,b27,b28,b29,b30,b31,false]) 11=b21:=qbA b5 [nx b18 b5,nx b20 b5,b6,b7,b8,b9,b10,b11,b12,b13,b14,b15,b21,b22,b23,b24,b25,b26,b27,b28,b29,b30,b31,false] 11 (by simp)
 have g14:bI (SG [b5,nx b18 b5,nx b20 b5,b6,b7,b8,b9,b10,b11,b12,b13,b14,b15,b21,b22,b23,b24,b25,b26,b27,b28,b29,b30,b31,false]) 10=b22:=qbA b5 [nx b18 b5,nx b20 b5,b6,b7,b8,b9,b10,b11,b12,b13,b14,b15,b21,b22,b23,b24,b25,b26,b27,b28,b29,b30,b31,false] 10 (by simp)
 have g15:bI (SG [b5,nx b18 b5,nx b20 b5,b6,b7,b8,b9,b10,b11,b12,b13,b14,b15,b21,b22,b23,b24,b25,b26,b27,b28,b29,b30,b31,false]) 9=b23:=qbA b5 [nx b18 b5,nx b20 b5,b6,b7,b8,b9,b10,b11,b12,b13,b14,b15,b21,b22,b23,b24,b25,b26,b27,b28,b29,b30,b31,false] 9 (by simp)
 have g16:bI (SG [b5,nx b18 b5,nx b20 b5,b6,b7,b8,b9,b10,b11,b12,b13,b14,b15,b21,b22,b23,b24,b25,b26,b27,b28,b29,b30,b31,false]) 8=b24:=qbA b5 [nx b18 b5,nx b20 b5,b6,b7,b8,b9,b10,b11,b12,b13,b14,b15,b21,b22,b23,b24,b25,b26,b27,b28,b29,b30,b31,false] 8 (by simp)
 have g17:bI (SG [b5,nx b18 b5,nx b20 b5,b6,b7,b8,b9,b10,b11,b12,b13,b14,b15,b21,b22,b23,b24,b25,b26,b27,b28,b29,b30,b31,false]) 7=b25:=qbA b5 [nx b18 b5,nx b20 b5,b6,b7,b8,b9,b10,b11,b12,b13,b14,b15,b21,b22,b23,b24,b25,b26,b27,b28,b29,b30,b31,false] 7 (by simp)
 have g18:bI (SG [b5,nx b18 b5,nx b20 b5,b6,b7,b8,b9,b10,b11,b12,b13,b14,b15,b21,b22,b23,b24,b25,b26,b27,b28,b29,b30,b31,false]) 6=b26:=qbA b5 [nx b18 b5,nx b20 b5,b6,b7,b8,b9,b10,b11,b12,b13,b14,b15,b21,b22,b23,b24,b25,b26,b27,b28,b29,b30,b31,false] 6 (by simp)
 have g19:bI (SG [b5,nx b18 b5,nx b20 b5,b6,b7,b8,b9,b10,b11,b12,b13,b14,b15,b21,b22,b23,b24,b25,b26,b27,b28,b29,b30,b31,false]) 5=b27:=qbA b5 [nx b18 b5,nx b20 b5,b6,b7,b8,b9,b10,b11,b12,b13,b14,b15,b21,b22,b23,b24,b25,b26,b27,b28,b29,b30,b31,false] 5 (by simp)
 have g20:bI (SG [b5,nx b18 b5,nx b20 b5,b6,b7,b8,b9,b10,b11,b12,b13,b14,b15,b21,b22,b23,b24,b25,b26,b27,b28,b29,b30,b31,false]) 4=b28:=qbA b5 [nx b18 b5,nx b20 b5,b6,b7,b8,b9,b10,b11,b12,b13,b14,b15,b21,b22,b23,b24,b25,b26,b27,b28,b29,b30,b31,false] 4 (by simp)
 have g21:bI (SG [b5,nx b18 b5,nx b20 b5,b6,b7,b8,b9,b10,b11,b12,b13,b14,b15,b21,b22,b23,b24,b25,b26,b27,b28,b29,b30,b31,false]) 3=b29:=qbA b5 [nx b18 b5,nx b20 b5,b6,b7,b8,b9,b10,b11,b12,b13,b14,b15,b21,b22,b23,b24,b25,b26,b27,b28,b29,b30,b31,false] 3 (by simp)
 have g22:bI (SG [b5,nx b18 b5,nx b20 b5,b6,b7,b8,b9,b10,b11,b12,b13,b14,b15,b21,b22,b23,b24,b25,b26,b27,b28,b29,b30,b31,false]) 2=b30:=qbA b5 [nx b18 b5,nx b20 b5,b6,b7,b8,b9,b10,b11,b12,b13,b14,b15,b21,b22,b23,b24,b25,b26,b27,b28,b29,b30,b31,false] 2 (by simp)
 have g23:bI (SG [b5,nx b18 b5,nx b20 b5,b6,b7,b8,b9,b10,b11,b12,b13,b14,b15,b21,b22,b23,b24,b25,b26,b27,b28,b29,b30,b31,false]) 1=b31:=qbA b5 [nx b18 b5,nx b20 b5,b6,b7,b8,b9,b10,b11,b12,b13,b14,b15,b21,b22,b23,b24,b25,b26,b27,b28,b29,b30,b31,false] 1 (by simp)
 refine⟨qQu _ hev hlt.1 (by omega)
  ,by kernel_rfl,by
   have e:∀rd rn rm ra imm cond:Int,hl (ltr rd rn rm ra imm cond) ((qb (24,true)).take 16)=[true,true,true,true,false,bI imm 24,bI imm 21,bI imm 20,bI imm 19,bI imm 18,bI imm 17,bI imm 16,bI imm 15,bI imm 14,bI imm 13,bI imm 12]:=by intro rd rn rm ra imm cond;kernel_rfl
   rw[e]
   simp only[g0,g3,g4,g5,g6,g7,g8,g9,g10,g11,g12]
  ,by
   have e:∀rd rn rm ra imm cond:Int,hl (ltr rd rn rm ra imm cond) ((qb (24,true)).drop 16)=[true,false,!(bI imm 23 ^^ bI imm 24),true,!(bI imm 22 ^^ bI imm 24),bI imm 11,bI imm 10,bI imm 9,bI imm 8,bI imm 7,bI imm 6,bI imm 5,bI imm 4,bI imm 3,bI imm 2,bI imm 1]:=by intro rd rn rm ra imm cond;kernel_rfl
   rw[e]
   simp only[g1,g0,qSI,g2,g13,g14,g15,g16,g17,g18,g19,g20,g21,g22,g23]
  ⟩
theorem qPf (b4 b5 b6 b7 b8 b9 b10 b11 b12 b13 b14 b15:Bool):qF 25 false [true,true,false,true,b4,b5,b6,b7,b8,b9,b10,b11,b12,b13,b14,b15]=(25,0,0,0,0,SG [b8,b9,b10,b11,b12,b13,b14,b15,false],H [b4,b5,b6,b7],false,()):=by
 have e:qF 25 false [true,true,false,true,b4,b5,b6,b7,b8,b9,b10,b11,b12,b13,b14,b15]=(25,0,0,0,0,qL (((qbU [(8,b8),(7,b9),(6,b10),(5,b11),(4,b12),(3,b13),(2,b14),(1,b15)]:Nat):Int),8),H [b4,b5,b6,b7],false,()):=by kernel_rfl
 have e2:qbU [(8,b8),(7,b9),(6,b10),(5,b11),(4,b12),(3,b13),(2,b14),(1,b15)]=hb [b8,b9,b10,b11,b12,b13,b14,b15,false] 0:=by
  simp only[qbU,hb,Bool.toNat_false,Nat.reducePow,Nat.mul_zero,Nat.zero_add,Nat.add_zero]
  omega
 rw[e,e2]
 have e3:qL (((hb [b8,b9,b10,b11,b12,b13,b14,b15,false] 0:Nat):Int),8)=SG [b8,b9,b10,b11,b12,b13,b14,b15,false]:=qx4 b8 [b9,b10,b11,b12,b13,b14,b15,false]
 rw[e3]
theorem qPe (b4 b5 b6 b7 b8 b9 b10 b11 b12 b13 b14 b15:Bool) (h0:H [b4,b5,b6,b7]≤13):okB 25 (0) (0) (0) (0) (SG [b8,b9,b10,b11,b12,b13,b14,b15,false]) (H [b4,b5,b6,b7]) false=true∧(qb (25,false)).length=16∧hl (ltr (0) (0) (0) (0) (SG [b8,b9,b10,b11,b12,b13,b14,b15,false]) (H [b4,b5,b6,b7])) (qb (25,false))=[true,true,false,true,b4,b5,b6,b7,b8,b9,b10,b11,b12,b13,b14,b15]:=by
 have:=qO [b4,b5,b6,b7]
 have:H [b4,b5,b6,b7]<16:=qbO (l:=[b4,b5,b6,b7]) (k:=4) (by simp)
 have:=qyc b8 [b9,b10,b11,b12,b13,b14,b15]
 have hev:SG [b8,b9,b10,b11,b12,b13,b14,b15,false] % 2=0:=this
 have hlt:-256≤SG [b8,b9,b10,b11,b12,b13,b14,b15,false]∧SG [b8,b9,b10,b11,b12,b13,b14,b15,false]<256:=qGS b8 [b9,b10,b11,b12,b13,b14,b15,false] 8 (by simp)
 have g0:bI (H [b4,b5,b6,b7]) 3=b4:=qm [b4,b5,b6,b7] 3 (by simp)
 have g1:bI (H [b4,b5,b6,b7]) 2=b5:=qm [b4,b5,b6,b7] 2 (by simp)
 have g2:bI (H [b4,b5,b6,b7]) 1=b6:=qm [b4,b5,b6,b7] 1 (by simp)
 have g3:bI (H [b4,b5,b6,b7]) 0=b7:=qm [b4,b5,b6,b7] 0 (by simp)
 have g4:bI (SG [b8,b9,b10,b11,b12,b13,b14,b15,false]) 8=b8:=qbA b8 [b9,b10,b11,b12,b13,b14,b15,false] 8 (by simp)
 have g5:bI (SG [b8,b9,b10,b11,b12,b13,b14,b15,false]) 7=b9:=qbA b8 [b9,b10,b11,b12,b13,b14,b15,false] 7 (by simp)
 have g6:bI (SG [b8,b9,b10,b11,b12,b13,b14,b15,false]) 6=b10:=qbA b8 [b9,b10,b11,b12,b13,b14,b15,false] 6 (by simp)
 have g7:bI (SG [b8,b9,b10,b11,b12,b13,b14,b15,false]) 5=b11:=qbA b8 [b9,b10,b11,b12,b13,b14,b15,false] 5 (by simp)
 have g8:bI (SG [b8,b9,b10,b11,b12,b13,b14,b15,false]) 4=b12:=qbA b8 [b9,b10,b11,b12,b13,b14,b15,false] 4 (by simp)
 have g9:bI (SG [b8,b9,b10,b11,b12,b13,b14,b15,false]) 3=b13:=qbA b8 [b9,b10,b11,b12,b13,b14,b15,false] 3 (by simp)
 have g10:bI (SG [b8,b9,b10,b11,b12,b13,b14,b15,false]) 2=b14:=qbA b8 [b9,b10,b11,b12,b13,b14,b15,false] 2 (by simp)
 have g11:bI (SG [b8,b9,b10,b11,b12,b13,b14,b15,false]) 1=b15:=qbA b8 [b9,b10,b11,b12,b13,b14,b15,false] 1 (by simp)
 refine⟨by
   simp[okB]
   try omega
  ,by kernel_rfl,by
   have e:∀rd rn rm ra imm cond:Int,hl (ltr rd rn rm ra imm cond) (qb (25,false))=[true,true,false,true,bI cond 3,bI cond 2,bI cond 1,bI cond 0,bI imm 8,bI imm 7,bI imm 6,bI imm 5,bI imm 4,bI imm 3,bI imm 2,bI imm 1]:=by intro rd rn rm ra imm cond;kernel_rfl
   rw[e]
   simp only[g0,g1,g2,g3,g4,g5,g6,g7,g8,g9,g10,g11]
  ⟩
set_option maxHeartbeats 2000000 in
theorem qMW (b5 b6 b7 b8 b9 b10 b11 b12 b13 b14 b15 b18 b20 b21 b22 b23 b24 b25 b26 b27 b28 b29 b30 b31:Bool):qF 25 true [true,true,true,true,false,b5,b6,b7,b8,b9,b10,b11,b12,b13,b14,b15,true,false,b18,false,b20,b21,b22,b23,b24,b25,b26,b27,b28,b29,b30,b31]=(25,0,0,0,0,SG [b5,b20,b18,b10,b11,b12,b13,b14,b15,b21,b22,b23,b24,b25,b26,b27,b28,b29,b30,b31,false],H [b6,b7,b8,b9],true,()):=by
 have e:qF 25 true [true,true,true,true,false,b5,b6,b7,b8,b9,b10,b11,b12,b13,b14,b15,true,false,b18,false,b20,b21,b22,b23,b24,b25,b26,b27,b28,b29,b30,b31]=(25,0,0,0,0,qL (((qbU [(20,b5),(17,b10),(16,b11),(15,b12),(14,b13),(13,b14),(12,b15),(18,b18),(19,b20),(11,b21),(10,b22),(9,b23),(8,b24),(7,b25),(6,b26),(5,b27),(4,b28),(3,b29),(2,b30),(1,b31)]:Nat):Int),20),H [b6,b7,b8,b9],true,()):=by kernel_rfl
 have e2:qbU [(20,b5),(17,b10),(16,b11),(15,b12),(14,b13),(13,b14),(12,b15),(18,b18),(19,b20),(11,b21),(10,b22),(9,b23),(8,b24),(7,b25),(6,b26),(5,b27),(4,b28),(3,b29),(2,b30),(1,b31)]=hb [b5,b20,b18,b10,b11,b12,b13,b14,b15,b21,b22,b23,b24,b25,b26,b27,b28,b29,b30,b31,false] 0:=by
  simp only[qbU,hb,Bool.toNat_false,Nat.reducePow,Nat.mul_zero,Nat.zero_add,Nat.add_zero]
  omega
 rw[e,e2]
 have e3:qL (((hb [b5,b20,b18,b10,b11,b12,b13,b14,b15,b21,b22,b23,b24,b25,b26,b27,b28,b29,b30,b31,false] 0:Nat):Int),20)=SG [b5,b20,b18,b10,b11,b12,b13,b14,b15,b21,b22,b23,b24,b25,b26,b27,b28,b29,b30,b31,false]:=qx4 b5 [b20,b18,b10,b11,b12,b13,b14,b15,b21,b22,b23,b24,b25,b26,b27,b28,b29,b30,b31,false]
 rw[e3]
theorem qMx (b5 b6 b7 b8 b9 b10 b11 b12 b13 b14 b15 b18 b20 b21 b22 b23 b24 b25 b26 b27 b28 b29 b30 b31:Bool) (h0:H [b6,b7,b8,b9]≤13):okB 25 (0) (0) (0) (0) (SG [b5,b20,b18,b10,b11,b12,b13,b14,b15,b21,b22,b23,b24,b25,b26,b27,b28,b29,b30,b31,false]) (H [b6,b7,b8,b9]) true=true∧(qb (25,true)).length=32∧hl (ltr (0) (0) (0) (0) (SG [b5,b20,b18,b10,b11,b12,b13,b14,b15,b21,b22,b23,b24,b25,b26,b27,b28,b29,b30,b31,false]) (H [b6,b7,b8,b9])) ((qb (25,true)).take 16)=[true,true,true,true,false,b5,b6,b7,b8,b9,b10,b11,b12,b13,b14,b15]∧hl (ltr (0) (0) (0) (0) (SG [b5,b20,b18,b10,b11,b12,b13,b14,b15,b21,b22,b23,b24,b25,b26,b27,b28,b29,b30,b31,false]) (H [b6,b7,b8,b9])) ((qb (25,true)).drop 16)=[true,false,b18,false,b20,b21,b22,b23,b24,b25,b26,b27,b28,b29,b30,b31]:=by
 have:=qO [b6,b7,b8,b9]
 have:H [b6,b7,b8,b9]<16:=qbO (l:=[b6,b7,b8,b9]) (k:=4) (by simp)
 have:=qyc b5 [b20,b18,b10,b11,b12,b13,b14,b15,b21,b22,b23,b24,b25,b26,b27,b28,b29,b30,b31]
 have hev:SG [b5,b20,b18,b10,b11,b12,b13,b14,b15,b21,b22,b23,b24,b25,b26,b27,b28,b29,b30,b31,false] % 2=0:=this
 have hlt:-1048576≤SG [b5,b20,b18,b10,b11,b12,b13,b14,b15,b21,b22,b23,b24,b25,b26,b27,b28,b29,b30,b31,false]∧SG [b5,b20,b18,b10,b11,b12,b13,b14,b15,b21,b22,b23,b24,b25,b26,b27,b28,b29,b30,b31,false]<1048576:=qGS b5 [b20,b18,b10,b11,b12,b13,b14,b15,b21,b22,b23,b24,b25,b26,b27,b28,b29,b30,b31,false] 20 (by simp)
 have g0:bI (H [b6,b7,b8,b9]) 3=b6:=qm [b6,b7,b8,b9] 3 (by simp)
 have g1:bI (H [b6,b7,b8,b9]) 2=b7:=qm [b6,b7,b8,b9] 2 (by simp)
 have g2:bI (H [b6,b7,b8,b9]) 1=b8:=qm [b6,b7,b8,b9] 1 (by simp)
 have g3:bI (H [b6,b7,b8,b9]) 0=b9:=qm [b6,b7,b8,b9] 0 (by simp)
 have g4:bI (SG [b5,b20,b18,b10,b11,b12,b13,b14,b15,b21,b22,b23,b24,b25,b26,b27,b28,b29,b30,b31,false]) 20=b5:=qbA b5 [b20,b18,b10,b11,b12,b13,b14,b15,b21,b22,b23,b24,b25,b26,b27,b28,b29,b30,b31,false] 20 (by simp)
 have g5:bI (SG [b5,b20,b18,b10,b11,b12,b13,b14,b15,b21,b22,b23,b24,b25,b26,b27,b28,b29,b30,b31,false]) 19=b20:=qbA b5 [b20,b18,b10,b11,b12,b13,b14,b15,b21,b22,b23,b24,b25,b26,b27,b28,b29,b30,b31,false] 19 (by simp)
 have g6:bI (SG [b5,b20,b18,b10,b11,b12,b13,b14,b15,b21,b22,b23,b24,b25,b26,b27,b28,b29,b30,b31,false]) 18=b18:=qbA b5 [b20,b18,b10,b11,b12,b13,b14,b15,b21,b22,b23,b24,b25,b26,b27,b28,b29,b30,b31,false] 18 (by simp)
 have g7:bI (SG [b5,b20,b18,b10,b11,b12,b13,b14,b15,b21,b22,b23,b24,b25,b26,b27,b28,b29,b30,b31,false]) 17=b10:=qbA b5 [b20,b18,b10,b11,b12,b13,b14,b15,b21,b22,b23,b24,b25,b26,b27,b28,b29,b30,b31,false] 17 (by simp)
 have g8:bI (SG [b5,b20,b18,b10,b11,b12,b13,b14,b15,b21,b22,b23,b24,b25,b26,b27,b28,b29,b30,b31,false]) 16=b11:=qbA b5 [b20,b18,b10,b11,b12,b13,b14,b15,b21,b22,b23,b24,b25,b26,b27,b28,b29,b30,b31,false] 16 (by simp)
 have g9:bI (SG [b5,b20,b18,b10,b11,b12,b13,b14,b15,b21,b22,b23,b24,b25,b26,b27,b28,b29,b30,b31,false]) 15=b12:=qbA b5 [b20,b18,b10,b11,b12,b13,b14,b15,b21,b22,b23,b24,b25,b26,b27,b28,b29,b30,b31,false] 15 (by simp)
 have g10:bI (SG [b5,b20,b18,b10,b11,b12,b13,b14,b15,b21,b22,b23,b24,b25,b26,b27,b28,b29,b30,b31,false]) 14=b13:=qbA b5 [b20,b18,b10,b11,b12,b13,b14,b15,b21,b22,b23,b24,b25,b26,b27,b28,b29,b30,b31,false] 14 (by simp)
 have g11:bI (SG [b5,b20,b18,b10,b11,b12,b13,b14,b15,b21,b22,b23,b24,b25,b26,b27,b28,b29,b30,b31,false]) 13=b14:=qbA b5 [b20,b18,b10,b11,b12,b13,b14,b15,b21,b22,b23,b24,b25,b26,b27,b28,b29,b30,b31,false] 13 (by simp)
 have g12:bI (SG [b5,b20,b18,b10,b11,b12,b13,b14,b15,b21,b22,b23,b24,b25,b26,b27,b28,b29,b30,b31,false]) 12=b15:=qbA b5 [b20,b18,b10,b11,b12,b13,b14,b15,b21,b22,b23,b24,b25,b26,b27,b28,b29,b30,b31,false] 12 (by simp)
 have g13:bI (SG [b5,b20,b18,b10,b11,b12,b13,b14,b15,b21,b22,b23,b24,b25,b26,b27,b28,b29,b30,b31,false]) 11=b21:=qbA b5 [b20,b18,b10,b11,b12,b13,b14,b15,b21,b22,b23,b24,b25,b26,b27,b28,b29,b30,b31,false] 11 (by simp)
 have g14:bI (SG [b5,b20,b18,b10,b11,b12,b13,b14,b15,b21,b22,b23,b24,b25,b26,b27,b28,b29,b30,b31,false]) 10=b22:=qbA b5 [b20,b18,b10,b11,b12,b13,b14,b15,b21,b22,b23,b24,b25,b26,b27,b28,b29,b30,b31,false] 10 (by simp)
 have g15:bI (SG [b5,b20,b18,b10,b11,b12,b13,b14,b15,b21,b22,b23,b24,b25,b26,b27,b28,b29,b30,b31,false]) 9=b23:=qbA b5 [b20,b18,b10,b11,b12,b13,b14,b15,b21,b22,b23,b24,b25,b26,b27,b28,b29,b30,b31,false] 9 (by simp)
 have g16:bI (SG [b5,b20,b18,b10,b11,b12,b13,b14,b15,b21,b22,b23,b24,b25,b26,b27,b28,b29,b30,b31,false]) 8=b24:=qbA b5 [b20,b18,b10,b11,b12,b13,b14,b15,b21,b22,b23,b24,b25,b26,b27,b28,b29,b30,b31,false] 8 (by simp)
 have g17:bI (SG [b5,b20,b18,b10,b11,b12,b13,b14,b15,b21,b22,b23,b24,b25,b26,b27,b28,b29,b30,b31,false]) 7=b25:=qbA b5 [b20,b18,b10,b11,b12,b13,b14,b15,b21,b22,b23,b24,b25,b26,b27,b28,b29,b30,b31,false] 7 (by simp)
 have g18:bI (SG [b5,b20,b18,b10,b11,b12,b13,b14,b15,b21,b22,b23,b24,b25,b26,b27,b28,b29,b30,b31,false]) 6=b26:=qbA b5 [b20,b18,b10,b11,b12,b13,b14,b15,b21,b22,b23,b24,b25,b26,b27,b28,b29,b30,b31,false] 6 (by simp)
 have g19:bI (SG [b5,b20,b18,b10,b11,b12,b13,b14,b15,b21,b22,b23,b24,b25,b26,b27,b28,b29,b30,b31,false]) 5=b27:=qbA b5 [b20,b18,b10,b11,b12,b13,b14,b15,b21,b22,b23,b24,b25,b26,b27,b28,b29,b30,b31,false] 5 (by simp)
 have g20:bI (SG [b5,b20,b18,b10,b11,b12,b13,b14,b15,b21,b22,b23,b24,b25,b26,b27,b28,b29,b30,b31,false]) 4=b28:=qbA b5 [b20,b18,b10,b11,b12,b13,b14,b15,b21,b22,b23,b24,b25,b26,b27,b28,b29,b30,b31,false] 4 (by simp)
 have g21:bI (SG [b5,b20,b18,b10,b11,b12,b13,b14,b15,b21,b22,b23,b24,b25,b26,b27,b28,b29,b30,b31,false]) 3=b29:=qbA b5 [b20,b18,b10,b11,b12,b13,b14,b15,b21,b22,b23,b24,b25,b26,b27,b28,b29,b30,b31,false] 3 (by simp)
 have g22:bI (SG [b5,b20,b18,b10,b11,b12,b13,b14,b15,b21,b22,b23,b24,b25,b26,b27,b28,b29,b30,b31,false]) 2=b30:=qbA b5 [b20,b18,b10,b11,b12,b13,b14,b15,b21,b22,b23,b24,b25,b26,b27,b28,b29,b30,b31,false] 2 (by simp)
 have g23:bI (SG [b5,b20,b18,b10,b11,b12,b13,b14,b15,b21,b22,b23,b24,b25,b26,b27,b28,b29,b30,b31,false]) 1=b31:=qbA b5 [b20,b18,b10,b11,b12,b13,b14,b15,b21,b22,b23,b24,b25,b26,b27,b28,b29,b30,b31,false] 1 (by simp)
 refine⟨by
   simp[okB]
   try omega
  ,by kernel_rfl,by
   have e:∀rd rn rm ra imm cond:Int,hl (ltr rd rn rm ra imm cond) ((qb (25,true)).take 16)=[true,true,true,true,false,bI imm 20,bI cond 3,bI cond 2,bI cond 1,bI cond 0,bI imm 17,bI imm 16,bI imm 15,bI imm 14,bI imm 13,bI imm 12]:=by intro rd rn rm ra imm cond;kernel_rfl
   rw[e]
   simp only[g4,g0,g1,g2,g3,g7,g8,g9,g10,g11,g12]
  ,by
   have e:∀rd rn rm ra imm cond:Int,hl (ltr rd rn rm ra imm cond) ((qb (25,true)).drop 16)=[true,false,bI imm 18,false,bI imm 19,bI imm 11,bI imm 10,bI imm 9,bI imm 8,bI imm 7,bI imm 6,bI imm 5,bI imm 4,bI imm 3,bI imm 2,bI imm 1]:=by intro rd rn rm ra imm cond;kernel_rfl
   rw[e]
   simp only[g6,g5,g13,g14,g15,g16,g17,g18,g19,g20,g21,g22,g23]
  ⟩
end Go.Av
end
section
namespace Go.Av
open Go
def qrz (i:qbd.den) (l:List Bool):Prop:=∃(op rd rn rm ra imm cond:Int) (w:Bool),i=(op,rd,rn,rm,ra,imm,cond,w,())∧qF op w l=i∧okB op rd rn rm ra imm cond w=true∧(qb (op,w)).length=16∧hl (ltr rd rn rm ra imm cond) (qb (op,w))=l
def qi1 (i:qbd.den) (lx ly:List Bool):Prop:=∃(op rd rn rm ra imm cond:Int) (w:Bool),i=(op,rd,rn,rm,ra,imm,cond,w,())∧qF op w (lx++ly)=i∧okB op rd rn rm ra imm cond w=true∧(qb (op,w)).length=32∧hl (ltr rd rn rm ra imm cond) ((qb (op,w)).take 16)=lx∧hl (ltr rd rn rm ra imm cond) ((qb (op,w)).drop 16)=ly
theorem qJ {α:Type} {c:Bool} {a b o:α} (h:(bif c then a else b)=o):(c=true∧a=o)∨(c=false∧b=o):=by
 cases c
 ·exact .inr ⟨rfl,h⟩
 ·exact .inl ⟨rfl,h⟩
theorem qMl (x0 x1 x2 x3 x4 x5 x6 x7 x8 x9 x10 x11 x12 x13 x14 x15:Bool) (i:qbd.den) (h:qcz [x0,x1,x2,x3,x4,x5,x6,x7,x8,x9,x10,x11,x12,x13,x14,x15]=some i):qrz i [x0,x1,x2,x3,x4,x5,x6,x7,x8,x9,x10,x11,x12,x13,x14,x15]:=by
 unfold qcz at h
 rcases qJ h with⟨c,g⟩ |⟨_,g⟩<;>clear h<;>have h:=g<;>clear g
 ·simp[eqC,qV,sl] at c
  obtain⟨rfl,rfl,rfl,rfl,rfl,rfl,rfl,rfl,rfl,rfl,rfl,rfl,rfl,rfl,rfl,rfl⟩:=c
  cases h
  exact⟨1,_,_,_,_,_,_,false,rfl,qRl ,qRs⟩
 rcases qJ h with⟨c,g⟩ |⟨_,g⟩<;>clear h<;>have h:=g<;>clear g
 ·simp[eqC,qV,sl] at c
  obtain⟨rfl,rfl,rfl,rfl,rfl,rfl,rfl,rfl⟩:=c
  cases h
  exact⟨2,_,_,_,_,_,_,false,rfl,qSs x8 x9 x10 x11 x12 x13 x14 x15,qQ1 x8 x9 x10 x11 x12 x13 x14 x15⟩
 rcases qJ h with⟨c,g⟩ |⟨_,g⟩<;>clear h<;>have h:=g<;>clear g
 ·simp[eqC,qV,sl] at c
  obtain⟨rfl,rfl,rfl,rfl,rfl,rfl,rfl,rfl,rfl,rfl⟩:=c
  cases h
  exact⟨19,_,_,_,_,_,_,false,rfl,qPm x10 x11 x12 x13 x14 x15,qO7 x10 x11 x12 x13 x14 x15⟩
 rcases qJ h with⟨c,g⟩ |⟨_,g⟩<;>clear h<;>have h:=g<;>clear g
 ·simp[eqC,qV,sl] at c
  obtain⟨rfl,rfl,rfl,rfl,rfl,rfl,rfl,rfl,rfl,rfl⟩:=c
  cases h
  exact⟨20,_,_,_,_,_,_,false,rfl,qPk x10 x11 x12 x13 x14 x15,qPc x10 x11 x12 x13 x14 x15⟩
 rcases qJ h with⟨c,g⟩ |⟨_,g⟩<;>clear h<;>have h:=g<;>clear g
 ·simp[eqC,qV,sl] at c
  obtain⟨rfl,rfl,rfl,rfl,rfl,rfl,rfl,rfl,rfl,rfl⟩:=c
  cases h
  exact⟨21,_,_,_,_,_,_,false,rfl,qO1 x10 x11 x12 x13 x14 x15,qPv x10 x11 x12 x13 x14 x15⟩
 rcases qJ h with⟨c,g⟩ |⟨_,g⟩<;>clear h<;>have h:=g<;>clear g
 ·simp[eqC,qV,sl] at c
  obtain⟨rfl,rfl,rfl,rfl,rfl,rfl,rfl,rfl,rfl,rfl⟩:=c
  cases h
  exact⟨22,_,_,_,_,_,_,false,rfl,qPh x10 x11 x12 x13 x14 x15,qPA x10 x11 x12 x13 x14 x15⟩
 rcases qJ h with⟨c,g⟩ |⟨_,g⟩<;>clear h<;>have h:=g<;>clear g
 ·simp[eqC,qV,sl] at c
  obtain⟨rfl,rfl,rfl,rfl,rfl,rfl,rfl,rfl,rfl,rfl⟩:=c
  cases h
  exact⟨23,_,_,_,_,_,_,false,rfl,qO2 x10 x11 x12 x13 x14 x15,qO6 x10 x11 x12 x13 x14 x15⟩
 rcases qJ h with⟨c,g⟩ |⟨_,g⟩<;>clear h<;>have h:=g<;>clear g
 ·simp[eqC,qV,sl] at c
  obtain⟨rfl,rfl,rfl,rfl,rfl⟩:=c
  cases h
  exact⟨24,_,_,_,_,_,_,false,rfl,qO5 x5 x6 x7 x8 x9 x10 x11 x12 x13 x14 x15,qPd x5 x6 x7 x8 x9 x10 x11 x12 x13 x14 x15⟩
 rcases qJ h with⟨c,g⟩ |⟨_,g⟩<;>clear h<;>have h:=g<;>clear g
 ·rw[Bool.and_eq_true] at c
  obtain⟨c,d⟩:=c
  simp[eqC,qV,sl] at c
  obtain⟨rfl,rfl,rfl,rfl⟩:=c
  cases h
  exact⟨25,_,_,_,_,_,_,false,rfl,qPf x4 x5 x6 x7 x8 x9 x10 x11 x12 x13 x14 x15,qPe x4 x5 x6 x7 x8 x9 x10 x11 x12 x13 x14 x15 (of_decide_eq_true d)⟩
 ·cases h
theorem qOe (x0 x1 x2 x3 x4 x5 x6 x7 x8 x9 x10 x11 x12 x13 x14 x15 y0 y1 y2 y3 y4 y5 y6 y7 y8 y9 y10 y11 y12 y13 y14 y15:Bool) (i:qbd.den) (h:qdY [x0,x1,x2,x3,x4,x5,x6,x7,x8,x9,x10,x11,x12,x13,x14,x15] [y0,y1,y2,y3,y4,y5,y6,y7,y8,y9,y10,y11,y12,y13,y14,y15]=some i):qi1 i [x0,x1,x2,x3,x4,x5,x6,x7,x8,x9,x10,x11,x12,x13,x14,x15] [y0,y1,y2,y3,y4,y5,y6,y7,y8,y9,y10,y11,y12,y13,y14,y15]:=by
 unfold qdY at h
 rcases qJ h with⟨_,g⟩ |⟨c0,g⟩<;>clear h<;>have h:=g<;>clear g
 ·cases h
 simp[eqC,qV,sl] at c0
 obtain rfl:=c0
 rcases qJ h with⟨c,g⟩ |⟨_,g⟩<;>clear h<;>have h:=g<;>clear g
 ·simp[eqC,qV,sl] at c
  obtain⟨rfl,rfl,rfl,rfl,rfl,rfl,rfl,rfl,rfl,rfl,rfl,rfl,rfl,rfl,rfl,rfl⟩:=c
  rcases qJ h with⟨d,g⟩ |⟨_,g⟩<;>clear h<;>have h:=g<;>clear g
  ·rw[Bool.and_eq_true,Bool.and_eq_true] at d
   rcases qJ h with⟨t,g⟩ |⟨t,g⟩<;>clear h<;>have h:=g<;>clear g
   ·simp[eqC,qV,sl] at t
    obtain⟨rfl,rfl⟩:=t
    cases h
    exact⟨5,_,_,_,_,_,_,false,rfl,qR9 y1 y2 y3 y4 y5 y6 y7 y8 y9 y12 y13 y14 y15,qRr y1 y2 y3 y4 y5 y6 y7 y8 y9 y12 y13 y14 y15 d.1 d.2.1⟩
   ·rcases qJ h with⟨s,g⟩ |⟨_,g⟩<;>clear h<;>have h:=g<;>clear g
    ·have s:=of_decide_eq_true s
     cases h
     cases y10<;>cases y11
     ·simp[eqC,qV,sl] at t
     ·exact⟨6,_,_,_,_,_,_,false,rfl,qRT y1 y2 y3 y4 y5 y6 y7 y8 y9 y12 y13 y14 y15,qRM y1 y2 y3 y4 y5 y6 y7 y8 y9 y12 y13 y14 y15 d.1 d.2.1 s⟩
     ·exact⟨7,_,_,_,_,_,_,false,rfl,qQ8 y1 y2 y3 y4 y5 y6 y7 y8 y9 y12 y13 y14 y15,qRz y1 y2 y3 y4 y5 y6 y7 y8 y9 y12 y13 y14 y15 d.1 d.2.1 s⟩
     ·exact⟨8,_,_,_,_,_,_,false,rfl,qRq y1 y2 y3 y4 y5 y6 y7 y8 y9 y12 y13 y14 y15,qSn y1 y2 y3 y4 y5 y6 y7 y8 y9 y12 y13 y14 y15 d.1 d.2.1 s⟩
    ·cases h
  ·cases h
 rcases qJ h with⟨c,g⟩ |⟨_,g⟩<;>clear h<;>have h:=g<;>clear g
 ·simp[eqC,qV,sl] at c
  obtain⟨rfl,rfl,rfl,rfl,rfl,rfl,rfl,rfl,rfl,rfl,rfl,rfl,rfl,rfl,rfl,rfl⟩:=c
  rcases qJ h with⟨d,g⟩ |⟨_,g⟩<;>clear h<;>have h:=g<;>clear g
  ·rw[Bool.and_eq_true,Bool.and_eq_true] at d
   rcases qJ h with⟨t,g⟩ |⟨t,g⟩<;>clear h<;>have h:=g<;>clear g
   ·simp[eqC,qV,sl] at t
    obtain⟨rfl,rfl⟩:=t
    rcases qJ h with⟨s,g⟩ |⟨_,g⟩<;>clear h<;>have h:=g<;>clear g
    ·simp[eqC,qV,sl] at s
     obtain⟨rfl,rfl,rfl,rfl,rfl⟩:=s
     cases h
     exact⟨9,_,_,_,_,_,_,false,rfl,qR2 y4 y5 y6 y7 y12 y13 y14 y15,qSp y4 y5 y6 y7 y12 y13 y14 y15 d.1 d.2.1⟩
    ·cases h
   ·cases h
  ·cases h
 rcases qJ h with⟨c,g⟩ |⟨_,g⟩<;>clear h<;>have h:=g<;>clear g
 ·simp[eqC,qV,sl] at c
  obtain⟨rfl,rfl,rfl,rfl,rfl,rfl,rfl,rfl,rfl,rfl,rfl,rfl⟩:=c
  rcases qJ h with⟨d,g⟩ |⟨_,g⟩<;>clear h<;>have h:=g<;>clear g
  ·rw[Bool.and_eq_true,Bool.and_eq_true,Bool.and_eq_true] at d
   rcases qJ h with⟨t,g⟩ |⟨t,g⟩<;>clear h<;>have h:=g<;>clear g
   ·simp[eqC,qV,sl] at t
    obtain⟨rfl,rfl⟩:=t
    rcases qJ h with⟨s,g⟩ |⟨_,g⟩<;>clear h<;>have h:=g<;>clear g
    ·simp[eqC,qV,sl] at s
     obtain⟨rfl,rfl,rfl,rfl,rfl⟩:=s
     cases h
     exact⟨10,_,_,_,_,_,_,false,rfl,qPq x12 x13 x14 x15 y4 y5 y6 y7 y12 y13 y14 y15,qPB x12 x13 x14 x15 y4 y5 y6 y7 y12 y13 y14 y15 d.1 d.2.1 d.2.2.1⟩
    ·cases h
   ·cases h
  ·cases h
 rcases qJ h with⟨c,g⟩ |⟨_,g⟩<;>clear h<;>have h:=g<;>clear g
 ·simp[eqC,qV,sl] at c
  obtain⟨rfl,rfl,rfl,rfl,rfl,rfl,rfl,rfl,rfl,rfl,rfl,rfl⟩:=c
  rcases qJ h with⟨d,g⟩ |⟨_,g⟩<;>clear h<;>have h:=g<;>clear g
  ·rw[Bool.and_eq_true,Bool.and_eq_true,Bool.and_eq_true] at d
   rcases qJ h with⟨t,g⟩ |⟨t,g⟩<;>clear h<;>have h:=g<;>clear g
   ·simp[eqC,qV,sl] at t
    obtain⟨rfl,rfl⟩:=t
    rcases qJ h with⟨s,g⟩ |⟨_,g⟩<;>clear h<;>have h:=g<;>clear g
    ·simp[eqC,qV,sl] at s
     obtain⟨rfl,rfl,rfl,rfl,rfl⟩:=s
     cases h
     exact⟨11,_,_,_,_,_,_,false,rfl,qO8 x12 x13 x14 x15 y4 y5 y6 y7 y12 y13 y14 y15,qPu x12 x13 x14 x15 y4 y5 y6 y7 y12 y13 y14 y15 d.1 d.2.1 d.2.2.1⟩
    ·cases h
   ·cases h
  ·cases h
 rcases qJ h with⟨c,g⟩ |⟨_,g⟩<;>clear h<;>have h:=g<;>clear g
 ·simp[eqC,qV,sl] at c
  obtain⟨rfl,rfl,rfl,rfl,rfl,rfl,rfl,rfl,rfl,rfl,rfl,rfl⟩:=c
  rcases qJ h with⟨d,g⟩ |⟨_,g⟩<;>clear h<;>have h:=g<;>clear g
  ·rw[Bool.and_eq_true,Bool.and_eq_true,Bool.and_eq_true] at d
   rcases qJ h with⟨t,g⟩ |⟨t,g⟩<;>clear h<;>have h:=g<;>clear g
   ·simp[eqC,qV,sl] at t
    obtain⟨rfl,rfl⟩:=t
    rcases qJ h with⟨s,g⟩ |⟨_,g⟩<;>clear h<;>have h:=g<;>clear g
    ·simp[eqC,qV,sl] at s
     obtain⟨rfl,rfl,rfl,rfl,rfl⟩:=s
     cases h
     exact⟨12,_,_,_,_,_,_,false,rfl,qPC x12 x13 x14 x15 y4 y5 y6 y7 y12 y13 y14 y15,qPw x12 x13 x14 x15 y4 y5 y6 y7 y12 y13 y14 y15 d.1 d.2.1 d.2.2.1⟩
    ·cases h
   ·cases h
  ·cases h
 rcases qJ h with⟨c,g⟩ |⟨_,g⟩<;>clear h<;>have h:=g<;>clear g
 ·simp[eqC,qV,sl] at c
  obtain⟨rfl,rfl,rfl,rfl,rfl,rfl,rfl,rfl,rfl,rfl,rfl,rfl⟩:=c
  rcases qJ h with⟨d,g⟩ |⟨_,g⟩<;>clear h<;>have h:=g<;>clear g
  ·rw[Bool.and_eq_true,Bool.and_eq_true,Bool.and_eq_true] at d
   rcases qJ h with⟨t,g⟩ |⟨t,g⟩<;>clear h<;>have h:=g<;>clear g
   ·simp[eqC,qV,sl] at t
    obtain⟨rfl,rfl⟩:=t
    rcases qJ h with⟨s,g⟩ |⟨_,g⟩<;>clear h<;>have h:=g<;>clear g
    ·simp[eqC,qV,sl] at s
     obtain⟨rfl,rfl,rfl,rfl,rfl⟩:=s
     cases h
     exact⟨13,_,_,_,_,_,_,false,rfl,qO4 x12 x13 x14 x15 y4 y5 y6 y7 y12 y13 y14 y15,qPb x12 x13 x14 x15 y4 y5 y6 y7 y12 y13 y14 y15 d.1 d.2.1 d.2.2.1⟩
    ·cases h
   ·cases h
  ·cases h
 rcases qJ h with⟨c,g⟩ |⟨_,g⟩<;>clear h<;>have h:=g<;>clear g
 ·simp[eqC,qV,sl] at c
  obtain⟨rfl,rfl,rfl,rfl,rfl,rfl,rfl,rfl,rfl,rfl,rfl,rfl⟩:=c
  rcases qJ h with⟨d,g⟩ |⟨_,g⟩<;>clear h<;>have h:=g<;>clear g
  ·rw[Bool.and_eq_true,Bool.and_eq_true,Bool.and_eq_true] at d
   rcases qJ h with⟨t,g⟩ |⟨t,g⟩<;>clear h<;>have h:=g<;>clear g
   ·simp[eqC,qV,sl] at t
    obtain⟨rfl,rfl⟩:=t
    rcases qJ h with⟨s,g⟩ |⟨_,g⟩<;>clear h<;>have h:=g<;>clear g
    ·simp[eqC,qV,sl] at s
     obtain⟨rfl,rfl,rfl,rfl,rfl⟩:=s
     cases h
     exact⟨14,_,_,_,_,_,_,false,rfl,qPi x12 x13 x14 x15 y4 y5 y6 y7 y12 y13 y14 y15,qPl x12 x13 x14 x15 y4 y5 y6 y7 y12 y13 y14 y15 d.1 d.2.1 d.2.2.1⟩
    ·cases h
   ·cases h
  ·cases h
 rcases qJ h with⟨c,g⟩ |⟨_,g⟩<;>clear h<;>have h:=g<;>clear g
 ·simp[eqC,qV,sl] at c
  obtain⟨rfl,rfl,rfl,rfl,rfl,rfl,rfl,rfl,rfl,rfl,rfl,rfl⟩:=c
  rcases qJ h with⟨d,g⟩ |⟨_,g⟩<;>clear h<;>have h:=g<;>clear g
  ·rw[Bool.and_eq_true,Bool.and_eq_true,Bool.and_eq_true] at d
   rcases qJ h with⟨t,g⟩ |⟨t,g⟩<;>clear h<;>have h:=g<;>clear g
   ·simp[eqC,qV,sl] at t
    obtain⟨rfl,rfl⟩:=t
    rcases qJ h with⟨s,g⟩ |⟨_,g⟩<;>clear h<;>have h:=g<;>clear g
    ·simp[eqC,qV,sl] at s
     obtain⟨rfl,rfl,rfl,rfl,rfl⟩:=s
     cases h
     exact⟨15,_,_,_,_,_,_,false,rfl,qPo x12 x13 x14 x15 y4 y5 y6 y7 y12 y13 y14 y15,qPn x12 x13 x14 x15 y4 y5 y6 y7 y12 y13 y14 y15 d.1 d.2.1 d.2.2.1⟩
    ·cases h
   ·cases h
  ·cases h
 cases h
theorem qLK (x0 x1 x2 x3 x4 x5 x6 x7 x8 x9 x10 x11 x12 x13 x14 x15 y0 y1 y2 y3 y4 y5 y6 y7 y8 y9 y10 y11 y12 y13 y14 y15:Bool) (i:qbd.den) (h:qd8 [x0,x1,x2,x3,x4,x5,x6,x7,x8,x9,x10,x11,x12,x13,x14,x15] [y0,y1,y2,y3,y4,y5,y6,y7,y8,y9,y10,y11,y12,y13,y14,y15]=some i):qi1 i [x0,x1,x2,x3,x4,x5,x6,x7,x8,x9,x10,x11,x12,x13,x14,x15] [y0,y1,y2,y3,y4,y5,y6,y7,y8,y9,y10,y11,y12,y13,y14,y15]:=by
 unfold qd8 at h
 rcases qJ h with⟨_,g⟩ |⟨c0,g⟩<;>clear h<;>have h:=g<;>clear g
 ·cases h
 simp[eqC,qV,sl] at c0
 obtain⟨rfl,rfl,rfl,rfl⟩:=c0
 rcases qJ h with⟨c,g⟩ |⟨_,g⟩<;>clear h<;>have h:=g<;>clear g
 ·simp[eqC,qV,sl] at c
  obtain⟨rfl,rfl,rfl,rfl,rfl,rfl,rfl,rfl,rfl,rfl,rfl,rfl⟩:=c
  rcases qJ h with⟨t,g⟩ |⟨_,g⟩<;>clear h<;>have h:=g<;>clear g
  ·simp[eqC,qV,sl] at t
   obtain⟨rfl,rfl,rfl,rfl⟩:=t
   rcases qJ h with⟨d,g⟩ |⟨_,g⟩<;>clear h<;>have h:=g<;>clear g
   ·rw[Bool.and_eq_true,Bool.and_eq_true,Bool.and_eq_true] at d
    cases h
    exact⟨16,_,_,_,_,_,_,false,rfl,qPs x12 x13 x14 x15 y4 y5 y6 y7 y12 y13 y14 y15,qPx x12 x13 x14 x15 y4 y5 y6 y7 y12 y13 y14 y15 d.1 d.2.1 d.2.2.1⟩
   ·cases h
  ·cases h
 rcases qJ h with⟨c,g⟩ |⟨_,g⟩<;>clear h<;>have h:=g<;>clear g
 ·simp[eqC,qV,sl] at c
  obtain⟨rfl,rfl,rfl,rfl,rfl,rfl,rfl,rfl,rfl,rfl,rfl,rfl⟩:=c
  rcases qJ h with⟨t,g⟩ |⟨_,g⟩<;>clear h<;>have h:=g<;>clear g
  ·have t:=bne_iff_ne.1 t
   rcases qJ h with⟨d,g⟩ |⟨_,g⟩<;>clear h<;>have h:=g<;>clear g
   ·rw[Bool.and_eq_true,Bool.and_eq_true,Bool.and_eq_true,Bool.and_eq_true] at d
    cases h
    exact⟨17,_,_,_,_,_,_,false,rfl,qO3 x12 x13 x14 x15 y0 y1 y2 y3 y4 y5 y6 y7 y12 y13 y14 y15,qO0 x12 x13 x14 x15 y0 y1 y2 y3 y4 y5 y6 y7 y12 y13 y14 y15 d.1 d.2.2.1 d.2.2.2.1 d.2.1 t⟩
   ·cases h
  ·cases h
 cases h
theorem qNE (x0 x1 x2 x3 x4 x5 x6 x7 x8 x9 x10 x11 x12 x13 x14 x15 y0 y1 y2 y3 y4 y5 y6 y7 y8 y9 y10 y11 y12 y13 y14 y15:Bool) (i:qbd.den) (h:qkG [x0,x1,x2,x3,x4,x5,x6,x7,x8,x9,x10,x11,x12,x13,x14,x15] [y0,y1,y2,y3,y4,y5,y6,y7,y8,y9,y10,y11,y12,y13,y14,y15]=some i):qi1 i [x0,x1,x2,x3,x4,x5,x6,x7,x8,x9,x10,x11,x12,x13,x14,x15] [y0,y1,y2,y3,y4,y5,y6,y7,y8,y9,y10,y11,y12,y13,y14,y15]:=by
 unfold qkG at h
 rcases qJ h with⟨_,g⟩ |⟨c0,g⟩<;>clear h<;>have h:=g<;>clear g
 ·cases h
 simp[eqC,qV,sl] at c0
 obtain rfl:=c0
 rcases qJ h with⟨c,g⟩ |⟨_,g⟩<;>clear h<;>have h:=g<;>clear g
 ·simp[eqC,qV,sl] at c
  obtain⟨rfl,rfl,rfl,rfl,rfl,rfl,rfl,rfl,rfl,rfl,rfl,rfl⟩:=c
  rcases qJ h with⟨t,g⟩ |⟨_,g⟩<;>clear h<;>have h:=g<;>clear g
  ·simp[eqC,qV,sl] at t
   obtain rfl:=t
   rcases qJ h with⟨s,g⟩ |⟨_,g⟩<;>clear h<;>have h:=g<;>clear g
   ·have s:=of_decide_eq_true s
    rcases qJ h with⟨d,g⟩ |⟨_,g⟩<;>clear h<;>have h:=g<;>clear g
    ·rw[Bool.and_eq_true,Bool.and_eq_true] at d
     cases h
     exact⟨18,_,_,_,_,_,_,false,rfl,qPy x12 x13 x14 x15 y1 y2 y3 y4 y5 y6 y7 y8 y9 y11 y12 y13 y14 y15,qPj x12 x13 x14 x15 y1 y2 y3 y4 y5 y6 y7 y8 y9 y11 y12 y13 y14 y15 d.1 d.2.1 s⟩
    ·cases h
   ·cases h
  ·cases h
 rcases qJ h with⟨c,g⟩ |⟨_,g⟩<;>clear h<;>have h:=g<;>clear g
 ·simp[eqC,qV,sl] at c
  obtain⟨rfl,rfl,rfl,rfl,rfl,rfl,rfl,rfl,rfl,rfl,rfl⟩:=c
  rcases qJ h with⟨d,g⟩ |⟨_,g⟩<;>clear h<;>have h:=g<;>clear g
  ·rw[Bool.and_eq_true] at d
   cases h
   exact⟨3,_,_,_,_,_,_,false,rfl,qSc x5 x12 x13 x14 x15 y1 y2 y3 y4 y5 y6 y7 y8 y9 y10 y11 y12 y13 y14 y15,qRB x5 x12 x13 x14 x15 y1 y2 y3 y4 y5 y6 y7 y8 y9 y10 y11 y12 y13 y14 y15 d.1⟩
  ·cases h
 rcases qJ h with⟨c,g⟩ |⟨_,g⟩<;>clear h<;>have h:=g<;>clear g
 ·simp[eqC,qV,sl] at c
  obtain⟨rfl,rfl,rfl,rfl,rfl,rfl,rfl,rfl,rfl,rfl,rfl⟩:=c
  rcases qJ h with⟨d,g⟩ |⟨_,g⟩<;>clear h<;>have h:=g<;>clear g
  ·rw[Bool.and_eq_true] at d
   cases h
   exact⟨4,_,_,_,_,_,_,false,rfl,qQ5 x5 x12 x13 x14 x15 y1 y2 y3 y4 y5 y6 y7 y8 y9 y10 y11 y12 y13 y14 y15,qSe x5 x12 x13 x14 x15 y1 y2 y3 y4 y5 y6 y7 y8 y9 y10 y11 y12 y13 y14 y15 d.1⟩
  ·cases h
 cases h
theorem qM9 (x0 x1 x2 x3 x4 x5 x6 x7 x8 x9 x10 x11 x12 x13 x14 x15 y0 y1 y2 y3 y4 y5 y6 y7 y8 y9 y10 y11 y12 y13 y14 y15:Bool) (i:qbd.den) (h:qov [x0,x1,x2,x3,x4,x5,x6,x7,x8,x9,x10,x11,x12,x13,x14,x15] [y0,y1,y2,y3,y4,y5,y6,y7,y8,y9,y10,y11,y12,y13,y14,y15]=some i):qi1 i [x0,x1,x2,x3,x4,x5,x6,x7,x8,x9,x10,x11,x12,x13,x14,x15] [y0,y1,y2,y3,y4,y5,y6,y7,y8,y9,y10,y11,y12,y13,y14,y15]:=by
 unfold qov at h
 rcases qJ h with⟨_,g⟩ |⟨c0,g⟩<;>clear h<;>have h:=g<;>clear g
 ·cases h
 simp[eqC,qV,sl] at c0
 obtain⟨⟨rfl,rfl,rfl,rfl,rfl⟩,rfl,rfl⟩:=c0
 rcases qJ h with⟨c,g⟩ |⟨c,g⟩<;>clear h<;>have h:=g<;>clear g
 ·simp[eqC,qV,sl] at c
  obtain rfl:=c
  cases h
  exact⟨24,_,_,_,_,_,_,true,rfl,qNv x5 x6 x7 x8 x9 x10 x11 x12 x13 x14 x15 y2 y4 y5 y6 y7 y8 y9 y10 y11 y12 y13 y14 y15,qNn x5 x6 x7 x8 x9 x10 x11 x12 x13 x14 x15 y2 y4 y5 y6 y7 y8 y9 y10 y11 y12 y13 y14 y15⟩
 ·simp[eqC,qV,sl] at c
  obtain rfl:=c
  rcases qJ h with⟨d,g⟩ |⟨_,g⟩<;>clear h<;>have h:=g<;>clear g
  ·cases h
   exact⟨25,_,_,_,_,_,_,true,rfl,qMW x5 x6 x7 x8 x9 x10 x11 x12 x13 x14 x15 y2 y4 y5 y6 y7 y8 y9 y10 y11 y12 y13 y14 y15,qMx x5 x6 x7 x8 x9 x10 x11 x12 x13 x14 x15 y2 y4 y5 y6 y7 y8 y9 y10 y11 y12 y13 y14 y15 (of_decide_eq_true d)⟩
  ·cases h
theorem qt3 {l:List Bool} (h:l.length=16):∃x0 x1 x2 x3 x4 x5 x6 x7 x8 x9 x10 x11 x12 x13 x14 x15:Bool,l=[x0,x1,x2,x3,x4,x5,x6,x7,x8,x9,x10,x11,x12,x13,x14,x15]:=by
 match l,h with
 |[x0,x1,x2,x3,x4,x5,x6,x7,x8,x9,x10,x11,x12,x13,x14,x15],_=>exact⟨_,_,_,_,_,_,_,_,_,_,_,_,_,_,_,_,rfl⟩
theorem qLb {l:List Bool} (hl:l.length=16) {i:qbd.den} (h:qcz l=some i):qrz i l:=by
 obtain⟨x0,x1,x2,x3,x4,x5,x6,x7,x8,x9,x10,x11,x12,x13,x14,x15,rfl⟩:=qt3 hl
 exact qMl _ _ _ _ _ _ _ _ _ _ _ _ _ _ _ _ i h
theorem qN7 {lx ly:List Bool} (hx:lx.length=16) (hy:ly.length=16) {i:qbd.den} (h:qcd lx ly=some i):qi1 i lx ly:=by
 obtain⟨x0,x1,x2,x3,x4,x5,x6,x7,x8,x9,x10,x11,x12,x13,x14,x15,rfl⟩:=qt3 hx
 obtain⟨y0,y1,y2,y3,y4,y5,y6,y7,y8,y9,y10,y11,y12,y13,y14,y15,rfl⟩:=qt3 hy
 unfold qcd at h
 rcases Option.or_eq_some_iff.1 h with h |⟨_,h⟩
 ·exact qOe _ _ _ _ _ _ _ _ _ _ _ _ _ _ _ _ _ _ _ _ _ _ _ _ _ _ _ _ _ _ _ _ i h
 rcases Option.or_eq_some_iff.1 h with h |⟨_,h⟩
 ·exact qLK _ _ _ _ _ _ _ _ _ _ _ _ _ _ _ _ _ _ _ _ _ _ _ _ _ _ _ _ _ _ _ _ i h
 rcases Option.or_eq_some_iff.1 h with h |⟨_,h⟩
 ·exact qNE _ _ _ _ _ _ _ _ _ _ _ _ _ _ _ _ _ _ _ _ _ _ _ _ _ _ _ _ _ _ _ _ i h
 ·exact qM9 _ _ _ _ _ _ _ _ _ _ _ _ _ _ _ _ _ _ _ _ _ _ _ _ _ _ _ _ _ _ _ _ i h
end Go.Av
end
section
namespace Go.Av
open Go
def hx (s:List UInt8) (k:Nat):List Bool:=qV 16 (qfm s k)
theorem qmX (s:List UInt8) (k:Nat):(hx s k).length=16:=qd0 ..
theorem qNL (s:List UInt8) (k:Nat):H (hx s k)=((qfm s k:Nat):Int):=by
 unfold H hx
 rw[qtD,Nat.mod_eq_of_lt (qy4 s k)]
abbrev zI:qbd.den:=(0,0,0,0,0,0,0,false,())
abbrev D4:=qbd.den×Int×Int×Unit
def qRj (n:Int):Option qbd.den→D4
 |some i=>(i,n,0,())
 |none=>(zI,0,7,())
def qjv (s:List UInt8):D4 :=
 bif decide (qh s<2) then(zI,0,3,())
 else bif Nat.ble 59392 (qfm s 0) then(bif decide (qh s<4) then(zI,0,3,()) else qRj 4 (qcd (hx s 0) (hx s 1)))
 else qRj 2 (qcz (hx s 0))
theorem qzW {S:Option D1} {d:Option qbd.den} (h:op1 S=some d):∃p:D1,S=some p∧(p.2.1=true→d=some p.1)∧(p.2.1=false→d=none):=by
 obtain⟨p,h1,h2⟩:=qP0 h
 refine⟨p,h1,fun e=>?_,fun e=>?_⟩
 ·rw[←h2,e];rfl
 ·rw[←h2,e];rfl
theorem qNC (l:List Bool) (hl:l.length=16):qgx (H l)=true∧((qdq (H l)).2.1=true→qcz l=some (qdq (H l)).1)∧((qdq (H l)).2.1=false→qcz l=none):=by
 obtain⟨p,h1,h2,h3⟩:=qzW (qNx l hl)
 have hv:qdq (H l)=p:=by unfold qdq PO.qQ;rw[h1];rfl
 have hg:qgx (H l)=true:=by unfold qgx;rw[h1];rfl
 rw[hv]
 exact⟨hg,h2,h3⟩
theorem qP3 (lx ly:List Bool) (hx:lx.length=16) (hy:ly.length=16):qhD (H lx,H ly)=true∧((qdO (H lx,H ly)).2.1=true→qdY lx ly=some (qdO (H lx,H ly)).1)∧((qdO (H lx,H ly)).2.1=false→qdY lx ly=none):=by
 obtain⟨p,h1,h2,h3⟩:=qzW (qPF lx ly hx hy)
 have hv:qdO (H lx,H ly)=p:=by unfold qdO PO.qQ;rw[h1];rfl
 have hg:qhD (H lx,H ly)=true:=by unfold qhD;rw[h1];rfl
 rw[hv]
 exact⟨hg,h2,h3⟩
theorem qNh (lx ly:List Bool) (hx:lx.length=16) (hy:ly.length=16):qfK (H lx,H ly)=true∧((qda (H lx,H ly)).2.1=true→qd8 lx ly=some (qda (H lx,H ly)).1)∧((qda (H lx,H ly)).2.1=false→qd8 lx ly=none):=by
 obtain⟨p,h1,h2,h3⟩:=qzW (qME lx ly hx hy)
 have hv:qda (H lx,H ly)=p:=by unfold qda PO.qQ;rw[h1];rfl
 have hg:qfK (H lx,H ly)=true:=by unfold qfK;rw[h1];rfl
 rw[hv]
 exact⟨hg,h2,h3⟩
theorem qPL (lx ly:List Bool) (hx:lx.length=16) (hy:ly.length=16):qhz (H lx,H ly)=true∧((qdL (H lx,H ly)).2.1=true→qkG lx ly=some (qdL (H lx,H ly)).1)∧((qdL (H lx,H ly)).2.1=false→qkG lx ly=none):=by
 obtain⟨p,h1,h2,h3⟩:=qzW (qQE lx ly hx hy)
 have hv:qdL (H lx,H ly)=p:=by unfold qdL PO.qQ;rw[h1];rfl
 have hg:qhz (H lx,H ly)=true:=by unfold qhz;rw[h1];rfl
 rw[hv]
 exact⟨hg,h2,h3⟩
theorem qNw (lx ly:List Bool) (hx:lx.length=16) (hy:ly.length=16):qgV (H lx,H ly)=true∧((qdn (H lx,H ly)).2.1=true→qov lx ly=some (qdn (H lx,H ly)).1)∧((qdn (H lx,H ly)).2.1=false→qov lx ly=none):=by
 obtain⟨p,h1,h2,h3⟩:=qzW (qOl lx ly hx hy)
 have hv:qdn (H lx,H ly)=p:=by unfold qdn PO.qQ;rw[h1];rfl
 have hg:qgV (H lx,H ly)=true:=by unfold qgV;rw[h1];rfl
 rw[hv]
 exact⟨hg,h2,h3⟩
def pk:Option qbd.den→D1
 |some i=>(i,true,())
 |none=>(zI,false,())
theorem qRp (lx ly:List Bool) (hx:lx.length=16) (hy:ly.length=16):(qks (H lx,H ly)).val=some (pk (qcd lx ly)):=by
 obtain⟨a1,a2,a3⟩:=qP3 lx ly hx hy
 obtain⟨b1,b2,b3⟩:=qNh lx ly hx hy
 obtain⟨c1,c2,c3⟩:=qPL lx ly hx hy
 obtain⟨d1,d2,d3⟩:=qNw lx ly hx hy
 unfold qks qcd PO.val
 rw[a1]
 dsimp only[cond_true,PO.val]
 cases ea:(qdO (H lx,H ly)).2.1
 ·rw[a3 ea,b1]
  dsimp only[cond_true,cond_false,PO.val]
  cases eb:(qda (H lx,H ly)).2.1
  ·rw[b3 eb,c1]
   dsimp only[cond_true,cond_false,PO.val]
   cases ec:(qdL (H lx,H ly)).2.1
   ·rw[c3 ec,d1]
    dsimp only[cond_true,cond_false,PO.val]
    cases ed:(qdn (H lx,H ly)).2.1
    ·rw[d3 ed];rfl
    ·rw[d2 ed];rfl
   ·rw[c2 ec];rfl
  ·rw[b2 eb];rfl
 ·rw[a2 ea];rfl
theorem qHT (s:List UInt8):(qiS s).val=some (qjv s):=by
 unfold qiS qjv PO.val
 cases h2:decide (qh s<2)
 ·have h2':=of_decide_eq_false h2
  cases hb:Nat.ble 59392 (qfm s 0)
  ·have hs:qbv s=2:=by unfold qbv;rw[h2,hb];rfl
   have g:qcC (s,0)=true:=by
    simp only[qcC,Bool.or_eq_true,Bool.and_eq_true,beq_iff_eq,decide_eq_true_eq]
    exact .inl ⟨trivial,by omega⟩
   have hv:qco (s,0)=H (hx s 0):=(qNL s 0).symm
   obtain⟨n1,n2,n3⟩:=qNC (hx s 0) (qmX s 0)
   rw[hs,h2,g,hv,n1]
   dsimp only[cond_true,cond_false,PO.val,Bool.or_false]
   cases e:(qdq (H (hx s 0))).2.1
   ·rw[n3 e];rfl
   ·rw[n2 e];rfl
  ·have hs:qbv s=4:=by unfold qbv;rw[h2,hb];rfl
   rw[hs]
   cases h4:decide (qh s<4)
   ·have h4':=of_decide_eq_false h4
    have g:qcC (s,0)=true:=by
     simp only[qcC,Bool.or_eq_true,Bool.and_eq_true,beq_iff_eq,decide_eq_true_eq]
     exact .inl ⟨trivial,by omega⟩
    have g1:qcC (s,1)=true:=by
     simp only[qcC,Bool.or_eq_true,Bool.and_eq_true,beq_iff_eq,decide_eq_true_eq]
     exact .inr ⟨trivial,by omega⟩
    have hv:qco (s,0)=H (hx s 0):=(qNL s 0).symm
    have hv1:qco (s,1)=H (hx s 1):=(qNL s 1).symm
    have ht:=qRp (hx s 0) (hx s 1) (qmX s 0) (qmX s 1)
    have gl:qkt (H (hx s 0),H (hx s 1))=true:=by unfold qkt;rw[ht];rfl
    have vl:qiV (H (hx s 0),H (hx s 1))=pk (qcd (hx s 0) (hx s 1)):=by unfold qiV PO.qQ;rw[ht];rfl
    rw[g,g1,hv,hv1,gl,vl]
    dsimp only[cond_true,cond_false,PO.val,Bool.or_false]
    cases qcd (hx s 0) (hx s 1)<;>rfl
   ·rfl
 ·have hs:qbv s=0:=by unfold qbv;rw[h2];rfl
  rw[hs]
  rfl
theorem qHB (s:List UInt8):qiP s=true:=by unfold qiP;rw[qHT];rfl
theorem qOP (s:List UInt8):qH s=qjv s:=by unfold qH PO.qQ;rw[qHT];rfl
def isL (l:List Bool):Bool:=l.getD 0 false&&(l.getD 1 false&&(l.getD 2 false&&(l.getD 3 false||l.getD 4 false)))
theorem qQI {l:List Bool} (hl:l.length=16):Nat.ble 59392 (hb l 0)=isL l:=by
 obtain⟨x0,x1,x2,x3,x4,x5,x6,x7,x8,x9,x10,x11,x12,x13,x14,x15,rfl⟩:=qt3 hl
 have h:=qwj [x0,x1,x2,x3,x4,x5,x6,x7,x8,x9,x10,x11,x12,x13,x14,x15] 11 (by simp)
 have e:hb ([x0,x1,x2,x3,x4,x5,x6,x7,x8,x9,x10,x11,x12,x13,x14,x15].take ([x0,x1,x2,x3,x4,x5,x6,x7,x8,x9,x10,x11,x12,x13,x14,x15].length-11)) 0=hb [x0,x1,x2,x3,x4] 0:=rfl
 rw[e] at h
 show _=(x0&&(x1&&(x2&&(x3||x4))))
 have h3:Nat.ble 59392 (hb [x0,x1,x2,x3,x4,x5,x6,x7,x8,x9,x10,x11,x12,x13,x14,x15] 0)=Nat.ble 29 (hb [x0,x1,x2,x3,x4] 0):=by
  rw[Bool.eq_iff_iff,Nat.ble_eq,Nat.ble_eq,←h]
  omega
 rw[h3]
 cases x0<;>cases x1<;>cases x2<;>cases x3<;>cases x4<;>rfl
section
variable (op rd rn rm ra imm cond:Int) (w:Bool)
def e1:List Bool:=hl (ltr rd rn rm ra imm cond) ((qb (op,w)).take 16)
def e2:List Bool:=hl (ltr rd rn rm ra imm cond) ((qb (op,w)).drop 16)
abbrev qSu:qbd.den:=(op,rd,rn,rm,ra,imm,cond,w,())
def Two:Prop:=((qb (op,w)).length=16∧isL (e1 op rd rn rm ra imm cond w)=false∧qcz (e1 op rd rn rm ra imm cond w)=some (qSu op rd rn rm ra imm cond w))∨((qb (op,w)).length=32∧isL (e1 op rd rn rm ra imm cond w)=true∧qcd (e1 op rd rn rm ra imm cond w) (e2 op rd rn rm ra imm cond w)=some (qSu op rd rn rm ra imm cond w))
end
set_option maxHeartbeats 1000000 in
theorem qMi (op rd rn rm ra imm cond:Int) (w:Bool) (h:okB op rd rn rm ra imm cond w=true):Two op rd rn rm ra imm cond w:=by
 rcases qgO op with rfl |rfl |rfl |rfl |rfl |rfl |rfl |rfl |rfl |rfl |rfl |rfl |rfl |rfl |rfl |rfl |rfl |rfl |rfl |rfl |rfl |rfl |rfl |rfl |rfl |hop
 case inr.inr.inr.inr.inr.inr.inr.inr.inr.inr.inr.inr.inr.inr.inr.inr.inr.inr.inr.inr.inr.inr.inr.inr.inr =>
  exfalso
  have e:=fun k hk=>qpQ (n:=op) (k:=k) hop hk
  have e2:bw op 10 16=false:=by unfold bw;rw[Bool.and_eq_false_iff,decide_eq_false_iff_not,decide_eq_false_iff_not];omega
  simp[okB,e,e2] at h
 case inr.inr.inr.inr.inr.inr.inr.inr.inr.inr.inr.inr.inr.inr.inr.inr.inr.inr.inr.inr.inr.inr.inr.inl =>
  cases w
  ·have h:(rd==0&&(rn==0&&(rm==0&&(ra==0&&(cond==0&&(imm % 2==0&&bw imm (-2048) 2046))))))=true:=h
   simp only[Bool.and_eq_true,beq_iff_eq,decide_eq_true_eq] at h
   obtain⟨rfl,rfl,rfl,rfl,rfl,h1,h2,h3⟩:=h
   exact .inl ⟨by kernel_rfl,by kernel_rfl,qSE imm h1 h2 h3⟩
  ·have h:(rd==0&&(rn==0&&(rm==0&&(ra==0&&(cond==0&&(imm % 2==0&&bw imm (-16777216) 16777214))))))=true:=h
   simp only[Bool.and_eq_true,beq_iff_eq,decide_eq_true_eq] at h
   obtain⟨rfl,rfl,rfl,rfl,rfl,h1,h2,h3⟩:=h
   exact .inr ⟨by kernel_rfl,by kernel_rfl,qRy imm h1 h2 h3⟩
 case inr.inr.inr.inr.inr.inr.inr.inr.inr.inr.inr.inr.inr.inr.inr.inr.inr.inr.inr.inr.inr.inr.inr.inr.inl =>
  cases w
  ·have h:(rd==0&&(rn==0&&(rm==0&&(ra==0&&(bw cond 0 13&&(imm % 2==0&&bw imm (-256) 254))))))=true:=h
   simp only[Bool.and_eq_true,beq_iff_eq,decide_eq_true_eq] at h
   obtain⟨rfl,rfl,rfl,rfl,⟨c1,c2⟩,h1,h2,h3⟩:=h
   exact .inl ⟨by kernel_rfl,by kernel_rfl,qTh imm h1 h2 h3 cond c1 c2⟩
  ·have h:(rd==0&&(rn==0&&(rm==0&&(ra==0&&(bw cond 0 13&&(imm % 2==0&&bw imm (-1048576) 1048574))))))=true:=h
   simp only[Bool.and_eq_true,beq_iff_eq,decide_eq_true_eq] at h
   obtain⟨rfl,rfl,rfl,rfl,⟨c1,c2⟩,h1,h2,h3⟩:=h
   exact .inr ⟨by kernel_rfl,by kernel_rfl,qQ3 imm h1 h2 h3 cond c1 c2⟩
 all_goals
  cases w
  case true=>exact Bool.noConfusion (show false=true from h)
 ·have h:(cond==0&&(rd==0&&(rn==0&&(rm==0&&(ra==0&&imm==0)))))=true:=h
  simp only[Bool.and_eq_true,beq_iff_eq] at h
  obtain⟨rfl,rfl,rfl,rfl,rfl,rfl⟩:=h
  exact .inl ⟨by kernel_rfl,by kernel_rfl,qTB⟩
 ·have h:(cond==0&&(rd==0&&(rn==0&&(rm==0&&(ra==0&&bw imm 0 255)))))=true:=h
  simp only[Bool.and_eq_true,beq_iff_eq,decide_eq_true_eq] at h
  obtain⟨rfl,rfl,rfl,rfl,rfl,h1,h2⟩:=h
  exact .inl ⟨by kernel_rfl,by kernel_rfl,qTC imm h1 h2⟩
 ·have h:(cond==0&&(bw rd 0 12&&(rn==0&&(rm==0&&(ra==0&&bw imm 0 65535)))))=true:=h
  simp only[Bool.and_eq_true,beq_iff_eq,decide_eq_true_eq] at h
  obtain⟨rfl,⟨d1,d2⟩,rfl,rfl,rfl,h1,h2⟩:=h
  exact .inr ⟨by kernel_rfl,by kernel_rfl,qTk rd d1 d2 imm h1 h2⟩
 ·have h:(cond==0&&(bw rd 0 12&&(rn==0&&(rm==0&&(ra==0&&bw imm 0 65535)))))=true:=h
  simp only[Bool.and_eq_true,beq_iff_eq,decide_eq_true_eq] at h
  obtain⟨rfl,⟨d1,d2⟩,rfl,rfl,rfl,h1,h2⟩:=h
  exact .inr ⟨by kernel_rfl,by kernel_rfl,qTG rd d1 d2 imm h1 h2⟩
 ·have h:(cond==0&&(bw rd 0 12&&(rn==0&&(bw rm 0 12&&(ra==0&&bw imm 0 31)))))=true:=h
  simp only[Bool.and_eq_true,beq_iff_eq,decide_eq_true_eq] at h
  obtain⟨rfl,⟨d1,d2⟩,rfl,⟨m1,m2⟩,rfl,h1,h2⟩:=h
  exact .inr ⟨by kernel_rfl,by kernel_rfl,qTw rd d1 d2 rm m1 m2 imm h1 h2⟩
 ·have h:(cond==0&&(bw rd 0 12&&(rn==0&&(bw rm 0 12&&(ra==0&&bw imm 1 31)))))=true:=h
  simp only[Bool.and_eq_true,beq_iff_eq,decide_eq_true_eq] at h
  obtain⟨rfl,⟨d1,d2⟩,rfl,⟨m1,m2⟩,rfl,h1,h2⟩:=h
  exact .inr ⟨by kernel_rfl,by kernel_rfl,qTv rd d1 d2 rm m1 m2 imm h1 h2⟩
 ·have h:(cond==0&&(bw rd 0 12&&(rn==0&&(bw rm 0 12&&(ra==0&&bw imm 1 31)))))=true:=h
  simp only[Bool.and_eq_true,beq_iff_eq,decide_eq_true_eq] at h
  obtain⟨rfl,⟨d1,d2⟩,rfl,⟨m1,m2⟩,rfl,h1,h2⟩:=h
  exact .inr ⟨by kernel_rfl,by kernel_rfl,qTi rd d1 d2 rm m1 m2 imm h1 h2⟩
 ·have h:(cond==0&&(bw rd 0 12&&(rn==0&&(bw rm 0 12&&(ra==0&&bw imm 1 31)))))=true:=h
  simp only[Bool.and_eq_true,beq_iff_eq,decide_eq_true_eq] at h
  obtain⟨rfl,⟨d1,d2⟩,rfl,⟨m1,m2⟩,rfl,h1,h2⟩:=h
  exact .inr ⟨by kernel_rfl,by kernel_rfl,qTA rd d1 d2 rm m1 m2 imm h1 h2⟩
 ·have h:(cond==0&&(bw rd 0 12&&(rn==0&&(bw rm 0 12&&(ra==0&&imm==0)))))=true:=h
  simp only[Bool.and_eq_true,beq_iff_eq,decide_eq_true_eq] at h
  obtain⟨rfl,⟨d1,d2⟩,rfl,⟨m1,m2⟩,rfl,rfl⟩:=h
  exact .inr ⟨by kernel_rfl,by kernel_rfl,qTn rd d1 d2 rm m1 m2⟩
 ·have h:(cond==0&&(bw rd 0 12&&(bw rn 0 12&&(bw rm 0 12&&(ra==0&&imm==0)))))=true:=h
  simp only[Bool.and_eq_true,beq_iff_eq,decide_eq_true_eq] at h
  obtain⟨rfl,⟨d1,d2⟩,⟨n1,n2⟩,⟨m1,m2⟩,rfl,rfl⟩:=h
  exact .inr ⟨by kernel_rfl,by kernel_rfl,qSJ rd d1 d2 rn n1 n2 rm m1 m2⟩
 ·have h:(cond==0&&(bw rd 0 12&&(bw rn 0 12&&(bw rm 0 12&&(ra==0&&imm==0)))))=true:=h
  simp only[Bool.and_eq_true,beq_iff_eq,decide_eq_true_eq] at h
  obtain⟨rfl,⟨d1,d2⟩,⟨n1,n2⟩,⟨m1,m2⟩,rfl,rfl⟩:=h
  exact .inr ⟨by kernel_rfl,by kernel_rfl,qSz rd d1 d2 rn n1 n2 rm m1 m2⟩
 ·have h:(cond==0&&(bw rd 0 12&&(bw rn 0 12&&(bw rm 0 12&&(ra==0&&imm==0)))))=true:=h
  simp only[Bool.and_eq_true,beq_iff_eq,decide_eq_true_eq] at h
  obtain⟨rfl,⟨d1,d2⟩,⟨n1,n2⟩,⟨m1,m2⟩,rfl,rfl⟩:=h
  exact .inr ⟨by kernel_rfl,by kernel_rfl,qSW rd d1 d2 rn n1 n2 rm m1 m2⟩
 ·have h:(cond==0&&(bw rd 0 12&&(bw rn 0 12&&(bw rm 0 12&&(ra==0&&imm==0)))))=true:=h
  simp only[Bool.and_eq_true,beq_iff_eq,decide_eq_true_eq] at h
  obtain⟨rfl,⟨d1,d2⟩,⟨n1,n2⟩,⟨m1,m2⟩,rfl,rfl⟩:=h
  exact .inr ⟨by kernel_rfl,by kernel_rfl,qSA rd d1 d2 rn n1 n2 rm m1 m2⟩
 ·have h:(cond==0&&(bw rd 0 12&&(bw rn 0 12&&(bw rm 0 12&&(ra==0&&imm==0)))))=true:=h
  simp only[Bool.and_eq_true,beq_iff_eq,decide_eq_true_eq] at h
  obtain⟨rfl,⟨d1,d2⟩,⟨n1,n2⟩,⟨m1,m2⟩,rfl,rfl⟩:=h
  exact .inr ⟨by kernel_rfl,by kernel_rfl,qTb rd d1 d2 rn n1 n2 rm m1 m2⟩
 ·have h:(cond==0&&(bw rd 0 12&&(bw rn 0 12&&(bw rm 0 12&&(ra==0&&imm==0)))))=true:=h
  simp only[Bool.and_eq_true,beq_iff_eq,decide_eq_true_eq] at h
  obtain⟨rfl,⟨d1,d2⟩,⟨n1,n2⟩,⟨m1,m2⟩,rfl,rfl⟩:=h
  exact .inr ⟨by kernel_rfl,by kernel_rfl,qS9 rd d1 d2 rn n1 n2 rm m1 m2⟩
 ·have h:(cond==0&&(bw rd 0 12&&(bw rn 0 12&&(bw rm 0 12&&(ra==0&&imm==0)))))=true:=h
  simp only[Bool.and_eq_true,beq_iff_eq,decide_eq_true_eq] at h
  obtain⟨rfl,⟨d1,d2⟩,⟨n1,n2⟩,⟨m1,m2⟩,rfl,rfl⟩:=h
  exact .inr ⟨by kernel_rfl,by kernel_rfl,qSM rd d1 d2 rn n1 n2 rm m1 m2⟩
 ·have h:(cond==0&&(bw rd 0 12&&(bw rn 0 12&&(bw rm 0 12&&(bw ra 0 12&&(imm==0&&ra != rd))))))=true:=h
  simp only[Bool.and_eq_true,beq_iff_eq,decide_eq_true_eq,bne_iff_ne] at h
  obtain⟨rfl,⟨d1,d2⟩,⟨n1,n2⟩,⟨m1,m2⟩,⟨a1,a2⟩,rfl,hne⟩:=h
  exact .inr ⟨by kernel_rfl,by kernel_rfl,qSY rd d1 d2 ra a1 a2 rn n1 n2 rm m1 m2 hne⟩
 ·have h:(cond==0&&(bw rd 0 12&&(bw rn 0 12&&(rm==0&&(bw imm 0 31&&bw ra 1 (32-imm))))))=true:=h
  simp only[Bool.and_eq_true,beq_iff_eq,decide_eq_true_eq] at h
  obtain⟨rfl,⟨d1,d2⟩,⟨n1,n2⟩,rfl,⟨h1,h2⟩,a1,a2⟩:=h
  exact .inr ⟨by kernel_rfl,by kernel_rfl,qSC rd d1 d2 rn n1 n2 imm h1 h2 ra a1 a2⟩
 ·have h:(cond==0&&(bw rd 0 7&&(bw rn 0 7&&(rm==0&&(ra==0&&imm==0)))))=true:=h
  simp only[Bool.and_eq_true,beq_iff_eq,decide_eq_true_eq] at h
  obtain⟨rfl,⟨d1,d2⟩,⟨n1,n2⟩,rfl,rfl,rfl⟩:=h
  exact .inl ⟨by kernel_rfl,by kernel_rfl,qSR rd d1 d2 rn n1 n2⟩
 ·have h:(cond==0&&(bw rd 0 7&&(bw rn 0 7&&(rm==0&&(ra==0&&imm==0)))))=true:=h
  simp only[Bool.and_eq_true,beq_iff_eq,decide_eq_true_eq] at h
  obtain⟨rfl,⟨d1,d2⟩,⟨n1,n2⟩,rfl,rfl,rfl⟩:=h
  exact .inl ⟨by kernel_rfl,by kernel_rfl,qSQ rd d1 d2 rn n1 n2⟩
 ·have h:(cond==0&&(bw rd 0 7&&(bw rn 0 7&&(rm==0&&(ra==0&&imm==0)))))=true:=h
  simp only[Bool.and_eq_true,beq_iff_eq,decide_eq_true_eq] at h
  obtain⟨rfl,⟨d1,d2⟩,⟨n1,n2⟩,rfl,rfl,rfl⟩:=h
  exact .inl ⟨by kernel_rfl,by kernel_rfl,qTf rd d1 d2 rn n1 n2⟩
 ·have h:(cond==0&&(bw rd 0 7&&(bw rn 0 7&&(rm==0&&(ra==0&&imm==0)))))=true:=h
  simp only[Bool.and_eq_true,beq_iff_eq,decide_eq_true_eq] at h
  obtain⟨rfl,⟨d1,d2⟩,⟨n1,n2⟩,rfl,rfl,rfl⟩:=h
  exact .inl ⟨by kernel_rfl,by kernel_rfl,qS7 rd d1 d2 rn n1 n2⟩
 ·have h:(cond==0&&(rd==0&&(bw rn 0 7&&(bw rm 0 7&&(ra==0&&imm==0)))))=true:=h
  simp only[Bool.and_eq_true,beq_iff_eq,decide_eq_true_eq] at h
  obtain⟨rfl,rfl,⟨n1,n2⟩,⟨m1,m2⟩,rfl,rfl⟩:=h
  exact .inl ⟨by kernel_rfl,by kernel_rfl,qSy rn n1 n2 rm m1 m2⟩
end Go.Av
end
section
namespace Go.Av
open Go
theorem qFT (l:List UInt8):∀b∈qej l,0≤b∧b<256:=by
 intro b hb
 obtain⟨u,_,rfl⟩:=List.mem_map.1 hb
 have:=u.toNat_lt
 omega
theorem qFh (v:Int):(qhY v).length=4:=by
 unfold qhY qej
 rw[List.length_map]
 rfl
theorem qyE {α:Type} (xs:List α) (o:Nat) (ys:List α) (n:Nat) (h:o+min ys.length n≤xs.length):(qe8 xs o ys n).length=xs.length:=by
 unfold qe8
 simp
 omega
theorem qOa {α:Type} {xs ys:List α} {o n:Nat} {b:α} (h:b∈qe8 xs o ys n):b∈xs∨b∈ys:=by
 unfold qe8 at h
 rcases List.mem_append.1 h with h |h
 ·rcases List.mem_append.1 h with h |h
  ·exact .inl (List.mem_of_mem_take h)
  ·exact .inr (List.mem_of_mem_take h)
 ·exact .inl (List.mem_of_mem_drop h)
theorem qOj {y:qer} (hy:MemWf y) (a n v:Int):MemWf (qfA y a n v).2∧(qfA y a n v).2.1=y.1:=by
 unfold qfA
 rcases qm7 y.1.1 a n true with⟨e,he,hf⟩ |⟨j,hj,hn,_,hf⟩
 ·rw[hf]
  have hb:(e != 0)=true:=by simpa using he
  dsimp only
  rw[hb]
  exact⟨hy,rfl⟩
 ·rw[hf]
  obtain⟨_,_,_,_,g5,_,_⟩:=qxo hy hj hn
  have hl:=qyE y.2 (posM y j a) (qhY v) n.toNat (by rw[qFh];omega)
  refine⟨⟨hy.regs,hy.len,fun i hi=>?_,fun b hb=>?_⟩,rfl⟩
  ·obtain⟨w1,w2⟩:=hy.wins i hi
   exact⟨w1,by show _≤(qe8 y.2 (posM y j a) (qhY v) n.toNat).length;rw[hl];exact w2⟩
  ·rcases qOa (show b∈qe8 y.2 (posM y j a) (qhY v) n.toNat from hb) with h |h
   ·exact hy.bytes b h
   ·exact qFT _ b h
theorem qIf (r:List Int):(qgm r).length=r.length:=by unfold qgm;simp
theorem qFs (r:List Int) (op rd rn rm ra imm ld:Int):(qsd r op rd rn rm ra imm ld).length=r.length:=by
 unfold qsd
 cases op==17
 ·cases qxO op<;>simp
 ·simp
theorem qOR (s:qG.den) (i:qbd.den) (ld:Int) (h:List.length s.1=15):List.length (qbT (s,i,ld)).1.1=15:=by
 obtain⟨op,rd,rn,rm,ra,imm,cond,w,u⟩:=i
 have hw:List.length (qct s).1=15:=by
  show(qgm s.1).length=15
  rw[qIf,h]
 show List.length (qpc _ s op rd rn rm ra imm cond w ld).1.1=15
 unfold qpc
 cases (qk (op,rd,rn,rm,ra,imm,cond,w,u) != 0||op==2)
 ·show List.length (bif op==24||op==25 then qct s else qid (qct s) op rd rn rm ra imm ld).1=15
  cases op==24||op==25
  ·show List.length (qid (qct s) op rd rn rm ra imm ld).1=15
   unfold qid
   cases op==23
   ·show(qsd (qct s).1 op rd rn rm ra imm ld).length=15
    rw[qFs,hw]
   ·exact hw
  ·exact hw
 ·exact hw
theorem qwZ (bad:Bool) (op a d:Int):(show Int from(qf1 bad op a d).1.1)=0∨(show Int from(qf1 bad op a d).1.1)=(wn a:Int):=by
 unfold qf1
 cases bad<;>cases op==19<;>cases op==20<;>cases op==21<;>cases op==22<;>first|exact .inl rfl |exact .inr rfl
theorem qJZ (st:qG.den) (ins:qbd.den):(show Int from(qf (st,ins)).1.1)<9223372036854775808:=by
 obtain⟨op,rd,rn,rm,ra,imm,cond,w,u⟩:=ins
 have:=qdB (rg st.1 rn)
 rcases qwZ (qk (op,rd,rn,rm,ra,imm,cond,w,u) != 0) op (rg st.1 rn) (rg st.1 rd) with h |h
 ·exact Int.lt_of_le_of_lt (Int.le_of_eq h) (by decide)
 ·exact Int.lt_of_le_of_lt (Int.le_of_eq h) (by omega)
end Go.Av
end
