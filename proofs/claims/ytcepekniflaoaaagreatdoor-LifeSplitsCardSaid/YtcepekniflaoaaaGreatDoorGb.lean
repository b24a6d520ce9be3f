/- Joined: AmtP, DivP, LedP, MarP, MdP, MxP, MlP, MwP. -/
import Derived.WalkKit
import Derived.Lib.BitFns
import Derived.Lib.ItoaNum
set_option linter.unusedVariables false
set_option linter.unusedSimpArgs false
namespace Go.Bw
def aO (x:Int):Bool:=decide (-4611686018427387904<=x/\x<=4611686018427387904)
theorem aF {x:Int}:aO x=true↔-4611686018427387904<=x/\x<=4611686018427387904:=by simp[aO]
theorem kQ {x:Int}:aO x=false↔x < -4611686018427387904\/4611686018427387904<x:=by simp[aO];omega
def kF (q:Nat) (neg:Bool):Int×Int:=if 4611686018427387904<q then (0,4) else (if neg then -(q:Int) else (q:Int),0)
def dQ (a b:Int):Int×Int:=if aO a=true/\aO b=true/\aO (a+b)=true then (a+b,0) else (0,4)
def fK (a b:Int):Int×Int:=if aO a=true/\aO b=true/\aO (a - b)=true then (a - b,0) else (0,4)
def fG (a b:Int):Int×Int:=if aO a=true/\aO b=true then kF (a.natAbs*b.natAbs) (decide (a<0) != decide (b<0)) else (0,4)
def Ac (mode:Int) (neg:Bool):Bool:=decide (mode=3)||(decide (mode=1)&&!neg)||(decide (mode=0)&&neg)
def CJ (a b c:Int):Bool:=((decide (a<0) != decide (b<0)) != decide (c<0))
def iT (a b c mode:Int):Int×Int :=
 if ¬ (aO a=true/\aO b=true/\aO c=true) then (0,4)
 else if c=0\/mode<0\/3<mode then (0,1)
 else kF (a.natAbs*b.natAbs / c.natAbs+if a.natAbs*b.natAbs % c.natAbs≠0/\Ac mode (CJ a b c)=true then 1 else 0) (CJ a b c)
section
variable {B y1 y0 u d q r:Nat}
theorem Lm (h0:y0<B) (hu:u<y1*B+y0) (hd:d<B) (hq:q*y1+r=u) (h:B<=q\/B*r+d<q*y0):(u*B+d) / (y1*B+y0)<q:=by
 rw[Nat.div_lt_iff_lt_mul (by omega)];rcases h with h|h
 ·have h1:u*B+B<=(y1*B+y0)*B:=by
   have:=Nat.mul_le_mul_right B (show u+1<=y1*B+y0 by omega)
   rwa [Nat.add_mul,Nat.one_mul] at this
  have h2:(y1*B+y0)*B<=q*(y1*B+y0):=by rw[Nat.mul_comm q];exact Nat.mul_le_mul_left _ h
  omega
 have e1:q*(y1*B+y0)=q*y1*B+q*y0:=by rw[Nat.mul_add,Nat.mul_assoc]
 have e2:u*B=q*y1*B+r*B:=by rw[<-hq,Nat.add_mul]
 rw[e1,e2];have:B*r=r*B:=Nat.mul_comm _ _;omega
theorem Ll (hy:0<y1*B+y0) (hq:q*y1+r=u) (h:q*y0<=B*r+d):q<=(u*B+d) / (y1*B+y0):=by
 rw[Nat.le_div_iff_mul_le hy];have e1:q*(y1*B+y0)=q*y1*B+q*y0:=by rw[Nat.mul_add,Nat.mul_assoc]
 have e2:u*B=q*y1*B+r*B:=by rw[<-hq,Nat.add_mul]
 rw[e1,e2];have:B*r=r*B:=Nat.mul_comm _ _;omega
theorem mV (h0:y0<B) (hr:B<=r) (hq:q<=B):q*y0<=B*r+d :=
 Nat.le_trans (Nat.mul_le_mul hq (show y0<=r by omega)) (Nat.le_add_right _ _)
theorem yV (h1:B<=2*y1) (h0:y0<B) (hu:u<y1*B+y0):u / y1<=B+1:=by
 have hy:0<y1:=by omega
 have:u / y1<B+2:=by
  rw[Nat.div_lt_iff_lt_mul hy,Nat.add_mul,Nat.mul_comm B y1];omega
 omega
theorem Bh (hu:u<y1*B+y0) (hd:d<B):(u*B+d) / (y1*B+y0)<B:=by
 rw[Nat.div_lt_iff_lt_mul (by omega)];have:=Nat.mul_le_mul_right B (show u+1<=y1*B+y0 by omega);rw[Nat.add_mul,Nat.one_mul] at this;have e:=Nat.mul_comm B (y1*B+y0);omega
end
theorem Ht {B y u d1 d0:Nat} (hB:0<B) :
 (u*B*B+d1*B+d0) / y=(u*B+d1) / y*B+((u*B+d1) % y*B+d0) / y/\(u*B*B+d1*B+d0) % y=((u*B+d1) % y*B+d0) % y:=by
 have e:u*B*B+d1*B+d0=(u*B+d1)*B+d0:=by rw[Nat.add_mul]
 rw[e];have h:(u*B+d1)*B+d0=((u*B+d1) % y*B+d0)+y*((u*B+d1) / y*B):=by
  have h1:=Nat.div_add_mod (u*B+d1) y;have h2:(u*B+d1)*B=(y*((u*B+d1) / y)+(u*B+d1) % y)*B:=by rw[h1]
  rw[h2,Nat.add_mul,Nat.mul_assoc];omega
 rcases Nat.eq_zero_or_pos y with h0|h0
 ·subst h0;simp
 rw[h,Nat.add_mul_div_left _ _ h0,Nat.add_mul_mod_self_left];exact⟨Nat.add_comm _ _,rfl⟩
theorem Hq (a b i:Nat):a*(b / 2 ^ i)=2*(a*(b / 2 ^ (i+1)))+if b / 2 ^ i % 2=1 then a else 0:=by
 have h:b / 2 ^ i=2*(b / 2 ^ (i+1))+b / 2 ^ i % 2:=by
  rw[Nat.pow_succ,<-Nat.div_div_eq_div_mul];omega
 have h2:a*(b / 2 ^ i)=a*(2*(b / 2 ^ (i+1))+b / 2 ^ i % 2):=by rw[<-h]
 rw[h2,Nat.mul_add,Nat.mul_left_comm];rcases Nat.mod_two_eq_zero_or_one (b / 2 ^ i) with e|e <;> rw[e] <;> simp
theorem JR (n c i:Nat) (hc:0<c):n / 2 ^ i / c=2*(n / 2 ^ (i+1) / c)+(if c<=2*(n / 2 ^ (i+1) % c)+n / 2 ^ i % 2 then 1 else 0) /\
 n / 2 ^ i % c=(if c<=2*(n / 2 ^ (i+1) % c)+n / 2 ^ i % 2 then 2*(n / 2 ^ (i+1) % c)+n / 2 ^ i % 2 - c else 2*(n / 2 ^ (i+1) % c)+n / 2 ^ i % 2):=by
 have h:n / 2 ^ i=2*(n / 2 ^ (i+1))+n / 2 ^ i % 2:=by
  rw[Nat.pow_succ,<-Nat.div_div_eq_div_mul];omega
 obtain⟨m,hm⟩:∃ m,m=n / 2 ^ (i+1):=⟨_,rfl⟩;obtain⟨b,hb⟩:∃ b,b=n / 2 ^ i % 2:=⟨_,rfl⟩;have hb1:b<=1:=by omega
 rw[<-hb,<-hm] at h ⊢;have hr:=Nat.mod_lt m hc;have hdm:=Nat.div_add_mod m c;have e:n / 2 ^ i=(2*(m % c)+b)+c*(2*(m / c)):=by rw[h,Nat.mul_left_comm];omega
 rw[e,Nat.add_mul_div_left _ _ hc,Nat.add_mul_mod_self_left];by_cases hle:c<=2*(m % c)+b
 ·rw[if_pos hle,if_pos hle];have e1:2*(m % c)+b=(2*(m % c)+b - c)+c*1:=by omega
  rw[e1,Nat.add_mul_div_left _ _ hc,Nat.add_mul_mod_self_left,Nat.div_eq_of_lt (by omega),Nat.mod_eq_of_lt (by omega)];omega
 rw[if_neg hle,if_neg hle,Nat.div_eq_of_lt (by omega),Nat.mod_eq_of_lt (by omega)];omega
theorem uM {q:Nat} {neg:Bool} (h:q<=4611686018427387904):kF q neg=(if neg then -(q:Int) else (q:Int),0):=by unfold kF;rw[if_neg (by omega)]
theorem nY {q:Nat} {neg:Bool} (h:4611686018427387904<q):kF q neg=(0,4):=by unfold kF;rw[if_pos h]
theorem Hf (a b:Int):(if (decide (a<0) != decide (b<0))=true then -((a.natAbs*b.natAbs:Nat):Int) else ((a.natAbs*b.natAbs:Nat):Int))=a*b:=by
 rcases Int.natAbs_eq a with ha|ha <;> rcases Int.natAbs_eq b with hb|hb <;>
 ·have e:((a.natAbs*b.natAbs:Nat):Int)=(a.natAbs:Int)*(b.natAbs:Int):=Int.natCast_mul _ _;by_cases h1:a<0 <;> by_cases h2:b<0 <;> simp only[h1,h2,decide_true,decide_false,bne_self_eq_false,Bool.false_bne,Bool.true_bne,Bool.not_false,Bool.not_true,if_true,Bool.false_eq_true,if_false,e]
  all_goals
   have ha':(a.natAbs:Int)=if a<0 then -a else a:=by split <;> omega
   have hb':(b.natAbs:Int)=if b<0 then -b else b:=by split <;> omega
   rw[ha',hb'];simp[h1,h2,Int.neg_mul,Int.mul_neg]
theorem lF (a b:Int):fG a b=if aO a=true/\aO b=true/\aO (a*b)=true then (a*b,0) else (0,4):=by
 unfold fG;by_cases h:aO a=true/\aO b=true
 ·rw[if_pos h];have e:(a*b).natAbs=a.natAbs*b.natAbs:=Int.natAbs_mul a b;by_cases hf:aO (a*b)=true
  ·have hf':=aF.1 hf;rw[if_pos ⟨h.1,h.2,hf⟩,uM (by omega),Hf]
  have hf':=kQ.1 (by simpa using hf);rw[if_neg (fun x=>hf x.2.2),nY (by omega)]
 rw[if_neg h,if_neg (fun x=>h ⟨x.1,x.2.1⟩)]
end Go.Bw
namespace Go.Bw
theorem yC (x:Nat) (h:x<18446744073709551616) (h0:x≠0):1<=Lib.bitLen x/\2 ^ (Lib.bitLen x - 1)<=x/\x<2 ^ Lib.bitLen x/\Lib.bitLen x<=64:=by
 obtain⟨h1,h2,h3⟩:=Lib.bitLenAux_bounds 64 x (by omega) h0;exact⟨h1,h2,h3,Lib.bitLen_le x 64 (by omega) (by omega)⟩
structure Ro (hi lo y s Y y1 y0 H l1 u d d1 d0:Nat):Prop where
 s1:s<=63
 es:(64:Int) - (Lib.bitLen y:Nat)=(s:Nat)
 eY:Y=y*2 ^ s
 Rn:9223372036854775808<=Y
 KW:Y<18446744073709551616
 ey:Y=y1*4294967296+y0
 Ia:2147483648<=y1
 Pz:y1<4294967296
 pU:y0<4294967296
 eH:H=hi*2 ^ s
 el1:l1=lo / 2 ^ (64 - s)
 Rx:H<18446744073709551616
 RI:H ||| l1=u
 QG:u<Y
 Qp:l1<18446744073709551616
 ed:d=lo*2 ^ s % 18446744073709551616
 Rz:d=d1*4294967296+d0
 Lj:d1<4294967296
 Jj:d0<4294967296
 quo:(hi*18446744073709551616+lo) / y=(u*4294967296+d1) / Y*4294967296+((u*4294967296+d1) % Y*4294967296+d0) / Y
 rem:(hi*18446744073709551616+lo) % y=((u*4294967296+d1) % Y*4294967296+d0) % Y / 2 ^ s
theorem Jm (hi lo y:Nat) (hy:hi<y) (hl:lo<18446744073709551616) (hyl:y<18446744073709551616) :
 ∃ s Y y1 y0 H l1 u d d1 d0,Ro hi lo y s Y y1 y0 H l1 u d d1 d0:=by
 obtain⟨b1,b2,b3,b4⟩:=yC y hyl (by omega);obtain⟨b,hb⟩:∃ b,b=Lib.bitLen y:=⟨_,rfl⟩;rw[<-hb] at b1 b2 b3 b4;obtain⟨s,hs⟩:∃ s,s=64 - b:=⟨_,rfl⟩;have hsb:b+s=64:=by omega
 have p64:2 ^ b*2 ^ s=18446744073709551616:=by rw[<-Nat.pow_add,hsb]
 have p63:2 ^ (b - 1)*2 ^ s=9223372036854775808:=by rw[<-Nat.pow_add,show b - 1+s=63 by omega]
 have ps:0<2 ^ s:=Nat.two_pow_pos s;have p64':2 ^ (64 - s)*2 ^ s=18446744073709551616:=by rw[show 64 - s=b by omega];exact p64
 obtain⟨Y,hY⟩:∃ Y,Y=y*2 ^ s:=⟨_,rfl⟩;have Rn:9223372036854775808<=Y:=by rw[hY,<-p63];exact Nat.mul_le_mul_right _ b2
 have KW:Y<18446744073709551616:=by rw[hY,<-p64];exact Nat.mul_lt_mul_of_pos_right b3 ps
 obtain⟨H,hH⟩:∃ H,H=hi*2 ^ s:=⟨_,rfl⟩;have hHY:H+2 ^ s<=Y:=by
  rw[hH,hY];have:=Nat.mul_le_mul_right (2 ^ s) (show hi+1<=y by omega)
  rwa [Nat.add_mul,Nat.one_mul] at this
 obtain⟨l1,hl1⟩:∃ l,l=lo / 2 ^ (64 - s):=⟨_,rfl⟩;have Qp:l1<2 ^ s:=by
  rw[hl1,Nat.div_lt_iff_lt_mul (Nat.two_pow_pos _),Nat.mul_comm,p64'];exact hl
 have hor:H ||| l1=H+l1:=by
  rw[hH,Nat.mul_comm hi];exact (Nat.two_pow_add_eq_or_of_lt Qp hi).symm
 obtain⟨d,hd⟩:∃ d,d=lo*2 ^ s % 18446744073709551616:=⟨_,rfl⟩;have dhi:d<18446744073709551616:=by rw[hd];exact Nat.mod_lt _ (by decide)
 have hsplit:lo*2 ^ s=l1*18446744073709551616+d:=by
  have h1:lo*2 ^ s / 18446744073709551616=l1:=by
   rw[hl1,<-p64',Nat.mul_div_mul_right _ _ ps]
  have h2:=Nat.div_add_mod (lo*2 ^ s) 18446744073709551616;rw[h1,<-hd,Nat.mul_comm] at h2;exact h2.symm
 have hN:(hi*18446744073709551616+lo)*2 ^ s=(H+l1)*4294967296*4294967296+d / 4294967296*4294967296+d % 4294967296:=by
  have e1:hi*18446744073709551616*2 ^ s=H*18446744073709551616:=by rw[hH,Nat.mul_right_comm]
  rw[Nat.add_mul,e1,hsplit];omega
 have two:=Ht (B:=4294967296) (y:=Y) (u:=H+l1) (d1:=d / 4294967296) (d0:=d % 4294967296) (by decide);rw[<-hN] at two;refine⟨s,Y,Y / 4294967296,Y % 4294967296,H,l1,H+l1,d,d / 4294967296,d % 4294967296,by omega,by rw[<-hb];omega,hY,Rn,KW,by omega,by omega,by omega,by omega,hH,hl1,by omega,hor,by omega,by omega,hd,by omega,by omega,by omega,?_,?_⟩
 ·rw[<-two.1,hY,Nat.mul_div_mul_right _ _ ps]
 rw[<-two.2,hY,Nat.mul_mod_mul_right,Nat.mul_div_cancel _ ps]
theorem ve {B y1 y0 u d:Nat} (hB:0<B) (hy:0<y1) (hd:d<B):(u*B+d) / (y1*B+y0)<=u / y1:=by
 have h1:(u*B+d) / (y1*B+y0)<=(u*B+d) / (y1*B):=Nat.div_le_div_left (Nat.le_add_right _ _) (Nat.mul_pos hy hB);have h2:(u*B+d) / (y1*B)=u / y1:=by
  rw[Nat.mul_comm y1 B,<-Nat.div_div_eq_div_mul,Nat.mul_comm u B,Nat.mul_add_div hB,Nat.div_eq_of_lt hd,Nat.add_zero]
 omega
structure Ot (u d Y y1 y0 q r:Nat):Prop where
 sum:q*y1+r=u
 ge:(u*4294967296+d) / Y<=q
theorem Ot.next {u d Y y1 y0 q r:Nat} (h:Ot u d Y y1 y0 q r) (hY:Y=y1*4294967296+y0) (h0:y0<4294967296) (hu:u<Y) (hd:d<4294967296) (hc:4294967296<=q\/4294967296*r+d<q*y0) :
 1<=q/\Ot u d Y y1 y0 (q - 1) (r+y1):=by
 have hlt:(u*4294967296+d) / Y<q:=by rw[hY] at hu ⊢;exact Lm h0 hu hd h.sum hc
 refine⟨Nat.lt_of_le_of_lt (Nat.zero_le _) hlt,⟨?_,Nat.le_sub_one_of_lt hlt⟩⟩;have:=h.sum;have e:q=(q - 1)+1:=by have:=Nat.lt_of_le_of_lt (Nat.zero_le _) hlt;omega
 rw[e,Nat.add_mul] at this;omega
theorem Ot.done {u d Y y1 y0 q r:Nat} (h:Ot u d Y y1 y0 q r) (hY:Y=y1*4294967296+y0) (h0:y0<4294967296) (hu:u<Y) (hc:q*y0<=4294967296*r+d):q=(u*4294967296+d) / Y:=by
 have h1:q<=(u*4294967296+d) / Y:=by rw[hY] at hu ⊢;exact Ll (by omega) h.sum hc
 exact Nat.le_antisymm h1 h.ge
structure gu where
 rate:Int
 dL:Int
structure dX where
 name:ByteArray
 cur:Int
 price:Int
 cZ:Int
structure Ins where
 kind:Int
 under:Int
 mult:Int
 strike:Int
 aN:Int
 call:Bool
 mark:Int
structure Acc where
 parent:Int
 aT:List Int
 flag:Bool
 last:Int
structure Pos where
 ak:Int
 instr:Int
 qty:Int
structure Ord where
 ak:Int
 id:Int
 instr:Int
 qty:Int
 price:Int
structure aH where
 day:Int
 aQ:List gu
 ah:List dX
 af:List Ins
 ai:List Acc
 au:List Pos
 orders:List Ord
 aG:List Int
 aJ:List Pos
def Oo (ps:List Int):Nat->Nat->List Nat
 | 0,_=>[]
 | f+1,v=>v::(match ps[v]? with|some p=>if p=-1 then [] else Oo ps f p.toNat|none=>[])
def ig (ps:List Int) (v:Nat):List Nat:=Oo ps (v+1) v
structure iD (ps:List Int):Prop where
 lo:2<=ps.length
 hi:ps.length<=16
 ok:∀ (v:Nat) (p:Int),ps[v]?=some p->p=-1\/(2<=v/\2<=p/\p<v/\(ig ps v).length<=4)
def Falls (ps:List Int) (n:Nat):Prop:=∀ (v:Nat) (p:Int),v<n->ps[v]?=some p->p=-1\/(0<=p/\p<v)
theorem iD.falls {ps:List Int} (h:iD ps) (n:Nat):Falls ps n:=fun v p _ hp=>by
 rcases h.ok v p hp with h|h
 ·exact Or.inl h
 exact Or.inr (by omega)
theorem Om {ps:List Int} {n:Nat} (h:Falls ps n):∀ (v f:Nat),v<n->v<f->Oo ps f v=ig ps v:=by
 intro v
 induction v using Nat.strongRecOn with
 | _ v ih =>
   intro f hv hf;obtain⟨f,rfl⟩:∃ g,f=g+1:=⟨f - 1,by omega⟩
   show v::_=v::_
   congr 1
   cases hp:ps[v]? with
   | none=>rfl
   | some p =>
     show (if p=-1 then [] else Oo ps f p.toNat)=(if p=-1 then [] else Oo ps v p.toNat)
     by_cases h1:p=-1
     ·rw[if_pos h1,if_pos h1]
     rw[if_neg h1,if_neg h1];rcases h v p hv hp with h2|h2
     ·exact absurd h2 h1
     rw[ih p.toNat (by omega) f (by omega) (by omega),ih p.toNat (by omega) v (by omega) (by omega)]
theorem mF {ps:List Int} {v:Nat} (h:ps[v]?=some (-1)):ig ps v=[v]:=by
 unfold ig Oo;rw[h];rfl
theorem mG {ps:List Int} {n v:Nat} {p:Int} (hf:Falls ps n) (hv:v<n) (h:ps[v]?=some p) (hp:p≠-1):ig ps v=v::ig ps p.toNat:=by
 rcases hf v p hv h with h1|h1
 ·exact absurd h1 hp
 show v::_=_
 rw[h]
 show v::(if p=-1 then [] else Oo ps v p.toNat)=_
 rw[if_neg hp,Om hf p.toNat v (by omega) (by omega)]
theorem NC {ps:List Int} {n:Nat} (hf:Falls ps n):∀ v,v<n->∀ u∈ig ps v,u<=v:=by
 intro v
 induction v using Nat.strongRecOn with
 | _ v ih =>
   intro hv u hu
   cases hp:ps[v]? with
   | none=>unfold ig Oo at hu;rw[hp] at hu;simp at hu;omega
   | some p =>
     by_cases h1:p=-1
     ·rw[h1] at hp;rw[mF hp] at hu;simp at hu;omega
     rw[mG hf hv hp h1] at hu;rcases hf v p hv hp with h2|h2
     ·exact absurd h2 h1
     rcases List.mem_cons.1 hu with h3|h3
     ·omega
     have:=ih p.toNat (by omega) (by omega) u h3;omega
theorem Gf (ps:List Int) (v:Nat):v∈ig ps v:=by unfold ig Oo;simp
def gq (ps:List Int) (v:Nat) (u:Nat):Bool:=decide (v∈ig ps u)
def gI (ps:List Int) (v:Nat):List Nat:=(List.range ps.length).filter (gq ps v)
theorem rO {ps:List Int} {v u:Nat}:u∈gI ps v↔u<ps.length/\v∈ig ps u:=by simp[gI,gq]
def iR (ps:List Int) (v n:Nat):List Nat:=(List.range n).filter (gq ps v)
theorem yB {ps:List Int} {n v:Nat} (hf:Falls ps n) (hv:v<n):iR ps v (v+1)=[v]:=by
 unfold iR;rw[List.range_succ,List.filter_append];have h1:(List.range v).filter (gq ps v)=[]:=by
  rw[List.filter_eq_nil_iff];intro u hu
  simp only[gq,decide_eq_true_eq]
  intro h;have:=NC hf u (by have:=List.mem_range.1 hu;omega) v h;have:=List.mem_range.1 hu;omega
 rw[h1];simp[gq,Gf]
theorem zU {ps:List Int} {n v u:Nat} {p:Int} (hf:Falls ps n) (hu:u<n) (hvu:v<u) (hp:ps[u]?=some p) :
 iR ps v (u+1)=if p∈(iR ps v u).map (fun x:Nat=>(x:Int)) then iR ps v u++[u] else iR ps v u:=by
 have e:iR ps v (u+1)=iR ps v u++(if gq ps v u=true then [u] else []):=by
  unfold iR;rw[List.range_succ,List.filter_append]
  congr 1
  by_cases h:gq ps v u=true
  ·rw[if_pos h];simp[h]
  rw[if_neg h];simp[h]
 have hiff:p∈(iR ps v u).map (fun x:Nat=>(x:Int))↔gq ps v u=true:=by
  simp only[gq,decide_eq_true_eq,List.mem_map,iR,List.mem_filter,List.mem_range]
  rcases hf u p hu hp with h1|h1
  ·subst h1;rw[mF hp]
   constructor
   ·rintro⟨x,_,hx⟩;omega
   intro h;simp at h;omega
  rw[mG hf hu hp (by omega)]
  constructor
  ·rintro⟨x,⟨_,hx⟩,e⟩;have:p.toNat=x:=by omega
   rw[this];exact List.mem_cons_of_mem _ hx
  intro h;rcases List.mem_cons.1 h with h|h
  ·omega
  exact⟨p.toNat,⟨by omega,h⟩,by omega⟩
 rw[e];by_cases h:gq ps v u=true
 ·rw[if_pos h,if_pos (hiff.2 h)]
 rw[if_neg h,if_neg (fun x=>h (hiff.1 x)),List.append_nil]
def nameB (s:ByteArray):Bool:=decide (1<=s.size/\s.size<=8)&&s.data.toList.all fun c=>decide (65<=c.toNat/\c.toNat<=90)
def gu.Ok (c:gu) (n:Nat):Prop:=1<=c.rate/\c.rate<=1000000000000/\0<=c.dL/\c.dL<=10000/\(n=0->c.rate=1000000)
def dX.Ok (u:dX) (aQ:Nat):Prop:=nameB u.name=true/\0<=u.cur/\u.cur<aQ/\1<=u.price/\u.price<=1000000000000/\0<=u.cZ/\u.cZ<=50000
def Ins.Ok (i:Ins) (ah:Nat):Prop:=0<=i.under/\i.under<ah/\1<=i.mult/\i.mult<=1000000/\0<=i.mark/\i.mark<=100000000000000 /\
 ((i.kind=1/\i.strike=0/\i.aN=0/\i.call=false)\/(i.kind=2/\i.strike=0/\1<=i.aN/\i.aN<=100000/\i.call=false) \/
  (i.kind=3/\1<=i.strike/\i.strike<=1000000000000/\1<=i.aN/\i.aN<=100000))
def Acc.Ok (a:Acc) (v aQ:Nat):Prop:=a.aT.length=aQ/\0<=a.last/\a.last<=1099511627776/\(v<2->a.flag=false/\a.last=0)/\∀ x∈a.aT,aO x=true
def Pos.Ok (p:Pos) (ai af:Nat):Prop:=2<=p.ak/\p.ak<ai/\0<=p.instr/\p.instr<af/\p.qty≠0/\-1000000000<=p.qty/\p.qty<=1000000000
def Pos.Lt (p q:Pos):Prop:=p.ak<q.ak\/p.ak=q.ak/\p.instr<q.instr
def Ord.Ok (o:Ord) (ai af:Nat):Prop:=2<=o.ak/\o.ak<ai/\1<=o.id/\o.id<=1099511627776/\0<=o.instr/\o.instr<af/\o.qty≠0/\-1000000000<=o.qty/\o.qty<=1000000000/\1<=o.price/\o.price<=100000000000000
def Ord.Lt (p q:Ord):Prop:=p.ak<q.ak\/p.ak=q.ak/\p.id<q.id
def iK {α:Type} (lt:α->α->Prop) (l:List α):Prop:=∀ (i:Nat) (a b:α),l[i]?=some a->l[i+1]?=some b->lt a b
structure ji (l:aH):Prop where
 c0:1<=l.aQ.length
 c1:l.aQ.length<=4
 u1:l.ah.length<=6
 i1:l.af.length<=12
 aQ:∀ (n:Nat) c,l.aQ[n]?=some c->c.Ok n
 ah:∀ (n:Nat) u,l.ah[n]?=some u->u.Ok l.aQ.length
 names:∀ (n k:Nat) u v,k<n->l.ah[n]?=some u->l.ah[k]?=some v->v.name≠u.name
 af:∀ i∈l.af,i.Ok l.ah.length
structure jy (l:aH):Prop where
 tree:iD (l.ai.map (·.parent))
 ai:∀ (v:Nat) a,l.ai[v]?=some a->a.Ok v l.aQ.length
structure jB (ps:List Pos) (ai af:Nat):Prop where
 len:ps.length<=64
 all:∀ p∈ps,p.Ok ai af
 rise:iK Pos.Lt ps
structure gX (os:List Ord) (ai af:Nat):Prop where
 len:os.length<=32
 all:∀ o∈os,o.Ok ai af
 rise:iK Ord.Lt os
structure pY (aG:List Int) (aJ:List Pos) (ai af:Nat):Prop where
 len:aG.length=af
 Ae:aJ.length<=32
 aG:∀ q∈aG,0<=q/\q<=1000000000
 all:∀ x∈aJ,2<=x.ak/\x.ak<ai/\0<=x.instr/\x.instr<af/\1<=x.qty/\x.qty<=1000000000
 rise:iK Pos.Lt aJ
structure aH.Good (l:aH):Prop where
 d0:0<=l.day
 d1:l.day<=100000
 things:ji l
 accounts:jy l
 au:jB l.au l.ai.length l.af.length
 orders:gX l.orders l.ai.length l.af.length
 aJ:pY l.aG l.aJ l.ai.length l.af.length
 ids:∀ o∈l.orders,∀ a,l.ai[o.ak.toNat]?=some a->o.id<=a.last
def valueA (call:Bool) (strike price cZ days:Int):Int×Int :=
 if ¬ ((0<=strike/\strike<=100000000000000)/\(0<=price/\price<=100000000000000)/\(0<=cZ/\cZ<=100000000000000)) then (0,1)
 else if days<=0 then (max (if call then price - strike else strike - price) 0,0)
 else if 100000<days then (0,1)
 else if (fG cZ days).2≠0 then (0,(fG cZ days).2)
 else if (iT strike (fG cZ days).1 3650000 0).2≠0 then (0,(iT strike (fG cZ days).1 3650000 0).2)
 else dQ (max (if call then price - strike else strike - price) 0) (max ((iT strike (fG cZ days).1 3650000 0).1 - ((price - strike).natAbs:Int) / 2) 0)
def pK (i:Ins) (price cZ day:Int):Int×Int :=
 if i.kind<1\/3<i.kind then (0,32)
 else if ¬ ((0<=price/\price<=100000000000000)/\(0<=cZ/\cZ<=100000000000000)/\(0<=day/\day<=100000)) then (0,1)
 else if i.kind≠3 then (price,0)
 else if i.aN<0\/100000<i.aN then (0,32)
 else valueA i.call i.strike price cZ (i.aN - day)
def jH (s:Nat):Int:=[-2000,-1000,-500,0,500,1000,2000].getD (s / 3) 0
def su (s:Nat):Int:=[-2500,0,2500].getD (s % 3) 0
def oU (price:Int) (s:Nat):Int:=price*(10000+jH s) / 10000
def oV (cZ:Int) (s:Nat):Int:=cZ*(10000+su s) / 10000
def o9 (i:Ins) (u:dX) (day:Int) (s:Nat):Int×Int:=pK i (oU u.price s) (oV u.cZ s) day
def iG (r:Int×Int):Option Int:=if r.2=0 then some r.1 else none
def retA:Option Int->Int×Int
 | some x=>(x,0)
 | none=>(0,4)
def kC (a b:Int):Option Int:=iG (dQ a b)
def lm (a b:Int):Option Int:=iG (fK a b)
def Ns (a b:Int):Option Int:=iG (fG a b)
def aH.ins (l:aH) (n:Int):Ins:=l.af.getD n.toNat ⟨0,0,0,0,0,false,0⟩
def aH.und (l:aH) (n:Int):dX:=l.ah.getD n.toNat ⟨⟨#[]⟩,0,0,0⟩
def aH.cur (l:aH) (n:Int):gu:=l.aQ.getD n.toNat ⟨0,0⟩
def aH.parents (l:aH):List Int:=l.ai.map (·.parent)
def aH.unit (l:aH) (instr:Int) (s:Nat):Int:=(o9 (l.ins instr) (l.und (l.ins instr).under) l.day s).1
def jI (l:aH) (instr qty:Int) (s:Nat) (frm:Int):Option Int:=Ns (qty*(l.ins instr).mult) (l.unit instr s - frm)
def aH.hit (l:aH) (ak:Nat) (under:Int) (instr who:Int):Bool:=decide ((l.ins instr).under=under)&&gq l.parents ak who.toNat
def iw (l:aH) (ak:Nat) (under:Int) (s:Nat):List Pos->Int->Option Int
 | [],x=>some x
 | p::r,x=>if l.hit ak under p.instr p.ak=true then (jI l p.instr p.qty s (l.ins p.instr).mark).bind fun g=>(lm x g).bind fun y=>iw l ak under s r y else iw l ak under s r x
def fF (l:aH) (ak:Nat) (under:Int) (s:Nat):List Ord->Int->Option Int
 | [],x=>some x
 | o::r,x=>if l.hit ak under o.instr o.ak=true then (jI l o.instr o.qty s o.price).bind fun g=>(lm x (min g 0)).bind fun y=>fF l ak under s r y else fF l ak under s r x
def jg (l:aH) (ak:Nat) (under:Int) (s:Nat):Option Int:=(iw l ak under s l.au 0).bind fun x=>fF l ak under s l.orders x
def iF (l:aH) (ak:Nat) (under:Int):Nat->Option Int
 | 0=>some 0
 | s+1=>(iF l ak under s).bind fun w=>(jg l ak under s).map fun x=>max w x
def nH (c:gu) (x mode:Int):Option Int:=iG (iT x c.rate 1000000 mode)
def mM (c:gu) (x:Int):Option Int:=(nH c x 0).bind fun y=>iG (iT y (if y<0 then 10000+c.dL else 10000 - c.dL) 10000 0)
def jF (l:aH) (ak:Nat):Nat->List dX->Int->Option Int
 | _,[],x=>some x
 | n,u::r,x=>(iF l ak n 21).bind fun w=>(nH (l.cur u.cur) w 1).bind fun b=>(kC x b).bind fun y=>jF l ak (n+1) r y
def pI (l:aH) (ak:Nat):Option Int:=jF l ak 0 l.ah 0
def iU (n:Nat):List Acc->Int->Option Int
 | [],x=>some x
 | a::r,x=>(kC x (a.aT.getD n 0)).bind fun y=>iU n r y
def aH.under (l:aH) (ak:Nat):List Acc:=(gI l.parents ak).map fun v=>l.ai.getD v ⟨-1,[],false,0⟩
def jD (l:aH) (ak:Nat):Nat->List gu->Int->Option Int
 | _,[],x=>some x
 | n,c::r,x=>(iU n (l.under ak) 0).bind fun k=>(mM c k).bind fun b=>(kC x b).bind fun y=>jD l ak (n+1) r y
def vH (l:aH) (ak:Nat):Option Int:=jD l ak 0 l.aQ 0
def dN (l:aH) (ak:Nat):Option Int:=(vH l ak).bind fun h=>(pI l ak).bind fun n=>lm h n
def kJ (l:aH):Nat->List Acc->Option (List Acc)
 | _,[]=>some []
 | v,a::r=>if v<2 then (kJ l (v+1) r).map (a::·) else (dN l v).bind fun x=>(kJ l (v+1) r).map ({ a with flag:=decide (x<0) }::·)
def jR (l:aH):Option aH:=(kJ l 0 l.ai).map fun as=>{ l with ai:=as }
theorem OT (a b c:Nat) (ha:a<=4611686018427387904) (hb:b<=4611686018427387904) (hc:c<=4611686018427387904) (hc0:0<c):iT a b c 0=kF (a*b / c) false:=by
 have fa:aO (a:Int)=true:=aF.2 (by omega);have fb:aO (b:Int)=true:=aF.2 (by omega);have fc:aO (c:Int)=true:=aF.2 (by omega);have hn:CJ a b c=false:=by
  have h1:¬ (a:Int)<0:=by omega
  have h2:¬ (b:Int)<0:=by omega
  have h3:¬ (c:Int)<0:=by omega
  simp[CJ,h1,h2,h3]
 unfold iT;rw[if_neg (by simp[fa,fb,fc]),if_neg (by omega),hn];have hg:Ac 0 false=false:=by decide
 rw[hg,if_neg (by simp)];simp
theorem nV (a b c:Int) (k:Int) (ha:0<=a) (hb:0<=b) (ha':a<=4611686018427387904) (hb':b<=4611686018427387904) (hc:0<c) (hc':c<=4611686018427387904) (hk:a*b<=k*c) (hk':k<=4611686018427387904) :
 iT a b c 0=(a*b / c,0)/\0<=a*b / c/\a*b / c<=k:=by
 obtain⟨a,rfl⟩:=Int.eq_ofNat_of_zero_le ha;obtain⟨b,rfl⟩:=Int.eq_ofNat_of_zero_le hb;obtain⟨c,rfl⟩:=Int.eq_ofNat_of_zero_le (show 0<=c by omega);have h1:((a:Int)*b / c)<=k:=by
  have:=Int.ediv_le_ediv hc hk
  rwa [Int.mul_ediv_cancel _ (by omega)] at this
 have h0:(0:Int)<=(a:Int)*b / c:=Int.ediv_nonneg (Int.mul_nonneg ha hb) (by omega);have e:((a:Int)*b / c)=((a*b / c:Nat):Int):=by simp
 refine⟨?_,h0,h1⟩;rw[OT a b c (by omega) (by omega) (by omega) (by omega),uM (by omega),e];rfl
theorem oC {a b:Int} (ha:aO a=true) (hb:aO b=true) (h:aO (a+b)=true):dQ a b=(a+b,0):=by unfold dQ;rw[if_pos ⟨ha,hb,h⟩]
theorem qC {a b A B:Int} (ha:0<=a) (hb:0<=b) (h1:a<=A) (h2:b<=B):a*b<=A*B:=Int.mul_le_mul h1 h2 hb (by omega)
theorem KF (call:Bool) (strike price cZ days:Int) (s0:0<=strike) (s1:strike<=1000000000000) (p0:0<=price) (p1:price<=1200000000000) (v0:0<=cZ) (v1:cZ<=62500) (d1:days<=100000) :
 ∃ x,valueA call strike price cZ days=(x,0)/\0<=x/\x<=2000000000000000:=by
 obtain⟨g,hg⟩:∃ g,g=(if call then price - strike else strike - price):=⟨_,rfl⟩;have g1:g<=1200000000000:=by rw[hg];split <;> omega
 unfold valueA;rw[<-hg,if_neg (by omega)];by_cases hd:days<=0
 ·rw[if_pos hd];exact⟨_,rfl,by omega,by omega⟩
 rw[if_neg hd,if_neg (by omega)];have m1:=qC v0 (show 0<=days by omega) v1 d1;have m0:0<=cZ*days:=Int.mul_nonneg v0 (by omega);have e1:fG cZ days=(cZ*days,0):=by
  rw[lF,if_pos ⟨aF.2 (by omega),aF.2 (by omega),aF.2 (by omega)⟩]
 rw[e1];have m2:=qC s0 m0 s1 (show cZ*days<=6250000000 by omega);obtain⟨e2,h0,h1⟩:=nV strike (cZ*days) 3650000 1800000000000000 s0 m0 (by omega) (by omega) (by omega) (by omega) (by omega) (by omega);rw[e2];obtain⟨t,ht⟩:∃ t,t=strike*(cZ*days) / 3650000:=⟨_,rfl⟩;rw[<-ht] at h0 h1 ⊢;rw[if_neg (by simp),if_neg (by simp)];obtain⟨q,hq⟩:∃ q:Int,q=((price - strike).natAbs:Int) / 2:=⟨_,rfl⟩;have hq0:0<=q:=by omega
 show ∃ x,dQ (max g 0) (max (t - ((price - strike).natAbs:Int) / 2) 0)=(x,0)/\_
 rw[<-hq,oC (aF.2 (by omega)) (aF.2 (by omega)) (aF.2 (by omega))];exact⟨_,rfl,by omega,by omega⟩
theorem uQ (s:Nat):-2000<=jH s/\jH s<=2000:=by
 unfold jH;generalize s / 3=k
 match k with
 | 0|1|2|3|4|5|6=>decide
 | k+7=>simp
theorem Au (s:Nat):-2500<=su s/\su s<=2500:=by
 unfold su;generalize s % 3=k
 match k with
 | 0|1|2=>decide
 | k+3=>simp
theorem nZ {price:Int} (h0:0<=price) (h1:price<=1000000000000) (s:Nat):iT price (10000+jH s) 10000 0=(oU price s,0)/\0<=oU price s/\oU price s<=1200000000000:=by
 have hs:=uQ s;have:=qC h0 (show 0<=10000+jH s by omega) h1 (show 10000+jH s<=12000 by omega);exact nV price (10000+jH s) 10000 1200000000000 h0 (by omega) (by omega) (by omega) (by omega) (by omega) (by omega) (by omega)
theorem og {cZ:Int} (h0:0<=cZ) (h1:cZ<=50000) (s:Nat):iT cZ (10000+su s) 10000 0=(oV cZ s,0)/\0<=oV cZ s/\oV cZ s<=62500:=by
 have hs:=Au s;have:=qC h0 (show 0<=10000+su s by omega) h1 (show 10000+su s<=12500 by omega);exact nV cZ (10000+su s) 10000 62500 h0 (by omega) (by omega) (by omega) (by omega) (by omega) (by omega) (by omega)
theorem D9 {i:Ins} {n:Nat} (hi:i.Ok n) (price cZ day:Int) (p0:0<=price) (p1:price<=1200000000000) (v0:0<=cZ) (v1:cZ<=62500) (d0:0<=day) (d1:day<=100000) :
 ∃ x,pK i price cZ day=(x,0)/\0<=x/\x<=2000000000000000:=by
 obtain⟨_,_,_,_,_,_,hk⟩:=hi;unfold pK;rw[if_neg (by omega),if_neg (by omega)];by_cases h3:i.kind=3
 ·have hk3:1<=i.strike/\i.strike<=1000000000000/\1<=i.aN/\i.aN<=100000:=by
   rcases hk with h|h|h
   ·omega
   ·omega
   exact h.2
  rw[if_neg (by simp[h3]),if_neg (by omega)];exact KF _ _ _ _ _ (by omega) (by omega) p0 p1 v0 v1 (by omega)
 rw[if_pos h3];exact⟨_,rfl,p0,by omega⟩
theorem Kz {i:Ins} {u:dX} {n m:Nat} {day:Int} (hi:i.Ok n) (hu:u.Ok m) (d0:0<=day) (d1:day<=100000) (s:Nat) :
 ∃ x,o9 i u day s=(x,0)/\0<=x/\x<=2000000000000000:=by
 obtain⟨_,_,_,p0,p1,v0,v1⟩:=hu;have hp:=nZ (show 0<=u.price by omega) p1 s;have hv:=og v0 v1 s;exact D9 hi _ _ _ hp.2.1 hp.2.2 hv.2.1 hv.2.2 d0 d1
theorem aH.Good.Ff {l:aH} (h:l.Good) {n:Int} (h0:0<=n) (h1:n<l.af.length):(l.ins n).Ok l.ah.length:=by
 have hn:n.toNat<l.af.length:=by omega
 unfold aH.ins;rw[List.getD_eq_getElem?_getD,List.getElem?_eq_getElem hn];exact h.things.af _ (List.getElem_mem _)
theorem aH.Good.Hw {l:aH} (h:l.Good) {n:Int} (h0:0<=n) (h1:n<l.ah.length):(l.und n).Ok l.aQ.length:=by
 have hn:n.toNat<l.ah.length:=by omega
 unfold aH.und;rw[List.getD_eq_getElem?_getD,List.getElem?_eq_getElem hn];exact h.things.ah n.toNat _ (List.getElem?_eq_getElem hn)
theorem aH.Good.IW {l:aH} (h:l.Good) {n:Int} (h0:0<=n) (h1:n<l.af.length) (s:Nat) :
 o9 (l.ins n) (l.und (l.ins n).under) l.day s=(l.unit n s,0)/\0<=l.unit n s/\l.unit n s<=2000000000000000:=by
 have hi:=h.Ff h0 h1;obtain⟨x,hx,a,b⟩:=Kz hi (h.Hw hi.1 hi.2.1) h.d0 h.d1 s;unfold aH.unit;rw[hx];exact⟨rfl,a,b⟩
theorem qW {r:Int×Int} {x:Int}:iG r=some x↔r=(x,0):=by
 obtain⟨a,e⟩:=r;unfold iG;by_cases h:e=0
 ·subst h;simp
 simp[h]
theorem yR {a b x:Int}:kC a b=some x↔x=a+b/\aO a=true/\aO b=true/\aO (a+b)=true:=by
 unfold kC;rw[qW];unfold dQ;by_cases h:aO a=true/\aO b=true/\aO (a+b)=true
 ·rw[if_pos h];constructor
  ·intro e;cases e;exact⟨rfl,h⟩
  rintro⟨rfl,_⟩;rfl
 rw[if_neg h];constructor
 ·intro e;cases e
 rintro⟨_,h2⟩;exact absurd h2 h
theorem Kv {a b x:Int}:lm a b=some x↔x=a - b/\aO a=true/\aO b=true/\aO (a - b)=true:=by
 unfold lm;rw[qW];unfold fK;by_cases h:aO a=true/\aO b=true/\aO (a - b)=true
 ·rw[if_pos h];constructor
  ·intro e;cases e;exact⟨rfl,h⟩
  rintro⟨rfl,_⟩;rfl
 rw[if_neg h];constructor
 ·intro e;cases e
 rintro⟨_,h2⟩;exact absurd h2 h
theorem JF {a b x:Int}:Ns a b=some x↔x=a*b/\aO a=true/\aO b=true/\aO (a*b)=true:=by
 unfold Ns;rw[qW,lF];by_cases h:aO a=true/\aO b=true/\aO (a*b)=true
 ·rw[if_pos h];constructor
  ·intro e;cases e;exact⟨rfl,h⟩
  rintro⟨rfl,_⟩;rfl
 rw[if_neg h];constructor
 ·intro e;cases e
 rintro⟨_,h2⟩;exact absurd h2 h
theorem iK.pair {α:Type} {lt:α->α->Prop} (tr:∀ a b c,lt a b->lt b c->lt a c):∀ {l:List α},iK lt l->l.Pairwise lt
 | [],_=>List.Pairwise.nil
 | a::r,h=>by
   have hr:iK lt r:=fun i x y hx hy=>h (i+1) x y (by simpa using hx) (by simpa using hy)
   have ih:=iK.pair tr hr;refine List.Pairwise.cons ?_ ih;intro b hb
   cases r with
   | nil=>simp at hb
   | cons c t =>
     have h0:lt a c:=h 0 a c rfl rfl;rcases List.mem_cons.1 hb with rfl|hb
     ·exact h0
     exact tr _ _ _ h0 ((List.pairwise_cons.1 ih).1 b hb)
theorem yL {α:Type} {lt:α->α->Prop} {l:List α} (h:l.Pairwise lt):iK lt l:=by
 intro i a b ha hb;obtain⟨h1,rfl⟩:=List.getElem?_eq_some_iff.1 ha;obtain⟨h2,rfl⟩:=List.getElem?_eq_some_iff.1 hb;exact List.pairwise_iff_getElem.1 h i (i+1) h1 h2 (by omega)
theorem iK.sub {α:Type} {lt:α->α->Prop} (tr:∀ a b c,lt a b->lt b c->lt a c) {l m:List α} (h:iK lt l) (hs:m.Sublist l):iK lt m :=
 yL ((h.pair tr).sublist hs)
theorem Pos.Lt.trans (a b c:Pos) (h:Pos.Lt a b) (k:Pos.Lt b c):Pos.Lt a c:=by unfold Pos.Lt at *;omega
theorem Ord.Lt.trans (a b c:Ord) (h:Ord.Lt a b) (k:Ord.Lt b c):Ord.Lt a c:=by unfold Ord.Lt at *;omega
theorem jB.sub {ps qs:List Pos} {n m:Nat} (h:jB ps n m) (hs:qs.Sublist ps):jB qs n m :=
 ⟨Nat.le_trans hs.length_le h.len,fun p hp=>h.all p (hs.subset hp),h.rise.sub Pos.Lt.trans hs⟩
theorem gX.sub {ps qs:List Ord} {n m:Nat} (h:gX ps n m) (hs:qs.Sublist ps):gX qs n m :=
 ⟨Nat.le_trans hs.length_le h.len,fun p hp=>h.all p (hs.subset hp),h.rise.sub Ord.Lt.trans hs⟩
theorem aH.Good.Qv {l:aH} (h:l.Good) {as:List Acc} (hp:as.map (·.parent)=l.ai.map (·.parent)) (hl:as.map (·.last)=l.ai.map (·.last))
 (ha:∀ (v:Nat) a,as[v]?=some a->a.Ok v l.aQ.length):({ l with ai:=as }:aH).Good:=by
 have hn:as.length=l.ai.length:=by have:=congrArg List.length hp;simpa using this
 refine⟨h.d0,h.d1,⟨h.things.c0,h.things.c1,h.things.u1,h.things.i1,h.things.aQ,h.things.ah,h.things.names,h.things.af⟩,⟨?_,ha⟩,?_,?_,?_,?_⟩
 ·show iD (as.map (·.parent))
  rw[hp];exact h.accounts.tree
 ·show jB l.au as.length l.af.length
  rw[hn];exact h.au
 ·show gX l.orders as.length l.af.length
  rw[hn];exact h.orders
 ·show pY l.aG l.aJ as.length l.af.length
  rw[hn];exact h.aJ
 intro o hm a hao;have h1:(as.map (·.last))[o.ak.toNat]?=some a.last:=by rw[List.getElem?_map,show as[o.ak.toNat]?=some a from hao];rfl
 rw[hl,List.getElem?_map] at h1
 cases h2:l.ai[o.ak.toNat]? with
 | none=>rw[h2] at h1;simp at h1
 | some b=>rw[h2] at h1;simp at h1;rw[<-h1];exact h.ids o hm b h2
theorem oJ {l:aH}:∀ (as:List Acc) (v:Nat) (bs:List Acc),kJ l v as=some bs->bs.length=as.length /\
 ∀ (k:Nat) a b,as[k]?=some a->bs[k]?=some b->b.parent=a.parent/\b.aT=a.aT/\b.last=a.last/\(v+k<2->b=a)
 | [],_,bs,h=>by cases h;exact⟨rfl,by simp⟩
 | a::r,v,bs,h=>by
   unfold kJ at h;by_cases hv:v<2
   ·rw[if_pos hv,Option.map_eq_some_iff] at h;obtain⟨cs,h1,rfl⟩:=h;obtain⟨e,ih⟩:=oJ r (v+1) cs h1;refine⟨by simp[e],fun k x y hx hy=>?_⟩
    cases k with
    | zero=>cases hx;cases hy;exact⟨rfl,rfl,rfl,fun _=>rfl⟩
    | succ k=>obtain⟨p,q,s,t⟩:=ih k x y hx hy;exact⟨p,q,s,fun hk=>t (by omega)⟩
   rw[if_neg hv,Option.bind_eq_some_iff] at h;obtain⟨x0,_,h⟩:=h;rw[Option.map_eq_some_iff] at h;obtain⟨cs,h1,rfl⟩:=h;obtain⟨e,ih⟩:=oJ r (v+1) cs h1;refine⟨by simp[e],fun k x y hx hy=>?_⟩
   cases k with
   | zero=>cases hx;cases hy;exact⟨rfl,rfl,rfl,fun hk=>by omega⟩
   | succ k=>obtain⟨p,q,s,t⟩:=ih k x y hx hy;exact⟨p,q,s,fun hk=>t (by omega)⟩
theorem Ci {α β:Type} (f:α->β) {as bs:List α} (hn:bs.length=as.length) (h:∀ (k:Nat) a b,as[k]?=some a->bs[k]?=some b->f b=f a):bs.map f=as.map f:=by
 apply List.ext_getElem?
 intro k;rw[List.getElem?_map,List.getElem?_map];by_cases hk:k<as.length
 ·rw[List.getElem?_eq_getElem hk,List.getElem?_eq_getElem (by omega)];exact congrArg some (h k _ _ (List.getElem?_eq_getElem hk) (List.getElem?_eq_getElem (by omega)))
 rw[List.getElem?_eq_none (by omega),List.getElem?_eq_none (by omega)]
theorem Bv {l m:aH} (h:l.Good) (hm:jR l=some m):m.Good:=by
 unfold jR at hm;rw[Option.map_eq_some_iff] at hm;obtain⟨bs,h1,rfl⟩:=hm;obtain⟨hn,hk⟩:=oJ _ _ _ h1;refine h.Qv (Ci _ hn fun k a b ha hb=>(hk k a b ha hb).1) (Ci _ hn fun k a b ha hb=>(hk k a b ha hb).2.2.1) (fun v b hb=>?_);have hv:v<l.ai.length:=by have:=(List.getElem?_eq_some_iff.1 hb).1;omega
 have ha:=List.getElem?_eq_getElem hv;obtain⟨p,q,s,t⟩:=hk v _ b ha hb;obtain⟨a1,a2,a3,a4,a5⟩:=h.accounts.ai v _ ha;refine⟨by rw[q];exact a1,by rw[s];exact a2,by rw[s];exact a3,fun hlt=>?_,by rw[q];exact a5⟩;rw[t (by omega)];exact a4 hlt
structure Looks (l m:aH):Prop where
 af:l.af=m.af
 ah:l.ah=m.ah
 day:l.day=m.day
 parents:l.parents=m.parents
theorem Looks.ins {l m:aH} (h:Looks l m) (i:Int):l.ins i=m.ins i:=by unfold aH.ins;rw[h.af]
def xG (G:Nat->Int):Nat->Int
 | 0=>0
 | k+1=>xG G k+max (-(G k)) 0
def QK (G:Nat->Int) (all:Bool) (n:Nat) (x:Int) (over:Bool):Prop:=over=true\/(-4611686018427387904<=x/\x<=4611686018427387904/\x<=xG G n/\(all=true->x=xG G n))
theorem QK.skip {G:Nat->Int} {all:Bool} {n:Nat} {x:Int} {over:Bool} (h:QK G all n x over) (hg:all=true->0<=G n):QK G all (n+1) x over:=by
 rcases h with h|⟨h1,h2,h3,h4⟩
 ·exact Or.inl h
 refine Or.inr ⟨h1,h2,?_,fun ha=>?_⟩
 ·show x<=xG G n+max (-(G n)) 0;omega
 show x=xG G n+max (-(G n)) 0
 have:=hg ha;have:=h4 ha;omega
theorem QK.lose {G:Nat->Int} {all:Bool} {n:Nat} {x y:Int} {over over':Bool} (h:QK G all n x over) (hf:aO (G n)=true) (hg:G n<0)
 (hy:y=x+-(G n)\/(9223372036854775807<x+-(G n)/\y=x+-(G n) - 18446744073709551616)\/over=true) (ho:over'=(over||decide (4611686018427387904<y)||decide (y<0))):QK G all (n+1) y over':=by
 have f:=aF.1 hf;rcases h with h|⟨h1,h2,h3,h4⟩
 ·exact Or.inl (by rw[ho,h];rfl)
 by_cases hov:over=true
 ·exact Or.inl (by rw[ho,hov];rfl)
 by_cases hb:4611686018427387904<y\/y<0
 ·refine Or.inl ?_;rw[ho];rcases hb with hb|hb
  ·simp[hb]
  simp[hb]
 refine Or.inr ⟨by omega,by omega,?_,fun ha=>?_⟩
 ·show y<=xG G n+max (-(G n)) 0
  rcases hy with hy|hy|hy
  ·omega
  ·omega
  exact absurd hy hov
 show y=xG G n+max (-(G n)) 0
 have:=h4 ha;rcases hy with hy|hy|hy
 ·omega
 ·omega
 exact absurd hy hov
end Go.Bw
