/- Joined: AmtP, DivP, LedP, MarP, MdP, MxP, MlP, MwP. -/
import Derived.WalkKit
import Derived.Lib.BitFns
import Derived.Lib.ItoaNum
set_option linter.unusedVariables false
set_option linter.unusedSimpArgs false
namespace Go.Bw
def aX (x:Int):Bool:=decide (-4611686018427387904<=x/\x<=4611686018427387904)
theorem aS {x:Int}:aX x=true↔-4611686018427387904<=x/\x<=4611686018427387904:=by simp[aX]
theorem sG {x:Int}:aX x=false↔x < -4611686018427387904\/4611686018427387904<x:=by simp[aX];omega
def oz (q:Nat) (neg:Bool):Int×Int:=if 4611686018427387904<q then (0,4) else (if neg then -(q:Int) else (q:Int),0)
def gG (a b:Int):Int×Int:=if aX a=true/\aX b=true/\aX (a+b)=true then (a+b,0) else (0,4)
def gV (a b:Int):Int×Int:=if aX a=true/\aX b=true/\aX (a - b)=true then (a - b,0) else (0,4)
def fP (a b:Int):Int×Int:=if aX a=true/\aX b=true then oz (a.natAbs*b.natAbs) (decide (a<0) != decide (b<0)) else (0,4)
def Dz (mode:Int) (neg:Bool):Bool:=decide (mode=3)||(decide (mode=1)&&!neg)||(decide (mode=0)&&neg)
def Ea (a b c:Int):Bool:=((decide (a<0) != decide (b<0)) != decide (c<0))
def lC (a b c mode:Int):Int×Int :=
 if ¬ (aX a=true/\aX b=true/\aX c=true) then (0,4)
 else if c=0\/mode<0\/3<mode then (0,1)
 else oz (a.natAbs*b.natAbs / c.natAbs+if a.natAbs*b.natAbs % c.natAbs≠0/\Dz mode (Ea a b c)=true then 1 else 0) (Ea a b c)
section
variable {B y1 y0 u d q r:Nat}
theorem Jr (h0:y0<B) (hu:u<y1*B+y0) (hd:d<B) (hq:q*y1+r=u) (h:B<=q\/B*r+d<q*y0):(u*B+d) / (y1*B+y0)<q:=by
 rw[Nat.div_lt_iff_lt_mul (by omega)];rcases h with h|h
 ·have h1:u*B+B<=(y1*B+y0)*B:=by
   have:=Nat.mul_le_mul_right B (show u+1<=y1*B+y0 by omega)
   rwa [Nat.add_mul,Nat.one_mul] at this
  have h2:(y1*B+y0)*B<=q*(y1*B+y0):=by rw[Nat.mul_comm q];exact Nat.mul_le_mul_left _ h
  omega
 have e1:q*(y1*B+y0)=q*y1*B+q*y0:=by rw[Nat.mul_add,Nat.mul_assoc]
 have e2:u*B=q*y1*B+r*B:=by rw[<-hq,Nat.add_mul]
 rw[e1,e2];have:B*r=r*B:=Nat.mul_comm _ _;omega
theorem Jq (hy:0<y1*B+y0) (hq:q*y1+r=u) (h:q*y0<=B*r+d):q<=(u*B+d) / (y1*B+y0):=by
 rw[Nat.le_div_iff_mul_le hy];have e1:q*(y1*B+y0)=q*y1*B+q*y0:=by rw[Nat.mul_add,Nat.mul_assoc]
 have e2:u*B=q*y1*B+r*B:=by rw[<-hq,Nat.add_mul]
 rw[e1,e2];have:B*r=r*B:=Nat.mul_comm _ _;omega
theorem lI (h0:y0<B) (hr:B<=r) (hq:q<=B):q*y0<=B*r+d :=
 Nat.le_trans (Nat.mul_le_mul hq (show y0<=r by omega)) (Nat.le_add_right _ _)
theorem xC (h1:B<=2*y1) (h0:y0<B) (hu:u<y1*B+y0):u / y1<=B+1:=by
 have hy:0<y1:=by omega
 have:u / y1<B+2:=by
  rw[Nat.div_lt_iff_lt_mul hy,Nat.add_mul,Nat.mul_comm B y1];omega
 omega
theorem zV (hu:u<y1*B+y0) (hd:d<B):(u*B+d) / (y1*B+y0)<B:=by
 rw[Nat.div_lt_iff_lt_mul (by omega)];have:=Nat.mul_le_mul_right B (show u+1<=y1*B+y0 by omega);rw[Nat.add_mul,Nat.one_mul] at this;have e:=Nat.mul_comm B (y1*B+y0);omega
end
theorem EH {B y u d1 d0:Nat} (hB:0<B) :
 (u*B*B+d1*B+d0) / y=(u*B+d1) / y*B+((u*B+d1) % y*B+d0) / y/\(u*B*B+d1*B+d0) % y=((u*B+d1) % y*B+d0) % y:=by
 have e:u*B*B+d1*B+d0=(u*B+d1)*B+d0:=by rw[Nat.add_mul]
 rw[e];have h:(u*B+d1)*B+d0=((u*B+d1) % y*B+d0)+y*((u*B+d1) / y*B):=by
  have h1:=Nat.div_add_mod (u*B+d1) y;have h2:(u*B+d1)*B=(y*((u*B+d1) / y)+(u*B+d1) % y)*B:=by rw[h1]
  rw[h2,Nat.add_mul,Nat.mul_assoc];omega
 rcases Nat.eq_zero_or_pos y with h0|h0
 ·subst h0;simp
 rw[h,Nat.add_mul_div_left _ _ h0,Nat.add_mul_mod_self_left];exact⟨Nat.add_comm _ _,rfl⟩
theorem vM {q:Nat} {neg:Bool} (h:q<=4611686018427387904):oz q neg=(if neg then -(q:Int) else (q:Int),0):=by unfold oz;rw[if_neg (by omega)]
theorem oC {q:Nat} {neg:Bool} (h:4611686018427387904<q):oz q neg=(0,4):=by unfold oz;rw[if_pos h]
theorem Eu (a b:Int):(if (decide (a<0) != decide (b<0))=true then -((a.natAbs*b.natAbs:Nat):Int) else ((a.natAbs*b.natAbs:Nat):Int))=a*b:=by
 rcases Int.natAbs_eq a with ha|ha <;> rcases Int.natAbs_eq b with hb|hb <;>
 ·have e:((a.natAbs*b.natAbs:Nat):Int)=(a.natAbs:Int)*(b.natAbs:Int):=Int.natCast_mul _ _;by_cases h1:a<0 <;> by_cases h2:b<0 <;> simp only[h1,h2,decide_true,decide_false,bne_self_eq_false,Bool.false_bne,Bool.true_bne,Bool.not_false,Bool.not_true,if_true,Bool.false_eq_true,if_false,e]
  all_goals
   have ha':(a.natAbs:Int)=if a<0 then -a else a:=by split <;> omega
   have hb':(b.natAbs:Int)=if b<0 then -b else b:=by split <;> omega
   rw[ha',hb'];simp[h1,h2,Int.neg_mul,Int.mul_neg]
theorem nC (a b:Int):fP a b=if aX a=true/\aX b=true/\aX (a*b)=true then (a*b,0) else (0,4):=by
 unfold fP;by_cases h:aX a=true/\aX b=true
 ·rw[if_pos h];have e:(a*b).natAbs=a.natAbs*b.natAbs:=Int.natAbs_mul a b;by_cases hf:aX (a*b)=true
  ·have hf':=aS.1 hf;rw[if_pos ⟨h.1,h.2,hf⟩,vM (by omega),Eu]
  have hf':=sG.1 (by simpa using hf);rw[if_neg (fun x=>hf x.2.2),oC (by omega)]
 rw[if_neg h,if_neg (fun x=>h ⟨x.1,x.2.1⟩)]
end Go.Bw
namespace Go.Bw
theorem wH (x:Nat) (h:x<18446744073709551616) (h0:x≠0):1<=Lib.bitLen x/\2 ^ (Lib.bitLen x - 1)<=x/\x<2 ^ Lib.bitLen x/\Lib.bitLen x<=64:=by
 obtain⟨h1,h2,h3⟩:=Lib.bitLenAux_bounds 64 x (by omega) h0;exact⟨h1,h2,h3,Lib.bitLen_le x 64 (by omega) (by omega)⟩
structure Ox (hi lo y s Y y1 y0 H l1 u d d1 d0:Nat):Prop where
 s1:s<=63
 es:(64:Int) - (Lib.bitLen y:Nat)=(s:Nat)
 eY:Y=y*2 ^ s
 Ov:9223372036854775808<=Y
 Jg:Y<18446744073709551616
 ey:Y=y1*4294967296+y0
 EW:2147483648<=y1
 MV:y1<4294967296
 nR:y0<4294967296
 eH:H=hi*2 ^ s
 el1:l1=lo / 2 ^ (64 - s)
 OG:H<18446744073709551616
 OJ:H ||| l1=u
 NZ:u<Y
 NH:l1<18446744073709551616
 ed:d=lo*2 ^ s % 18446744073709551616
 OI:d=d1*4294967296+d0
 Jp:d1<4294967296
 Gz:d0<4294967296
 quo:(hi*18446744073709551616+lo) / y=(u*4294967296+d1) / Y*4294967296+((u*4294967296+d1) % Y*4294967296+d0) / Y
 rem:(hi*18446744073709551616+lo) % y=((u*4294967296+d1) % Y*4294967296+d0) % Y / 2 ^ s
theorem GI (hi lo y:Nat) (hy:hi<y) (hl:lo<18446744073709551616) (hyl:y<18446744073709551616) :
 ∃ s Y y1 y0 H l1 u d d1 d0,Ox hi lo y s Y y1 y0 H l1 u d d1 d0:=by
 obtain⟨b1,b2,b3,b4⟩:=wH y hyl (by omega);obtain⟨b,hb⟩:∃ b,b=Lib.bitLen y:=⟨_,rfl⟩;rw[<-hb] at b1 b2 b3 b4;obtain⟨s,hs⟩:∃ s,s=64 - b:=⟨_,rfl⟩;have hsb:b+s=64:=by omega
 have p64:2 ^ b*2 ^ s=18446744073709551616:=by rw[<-Nat.pow_add,hsb]
 have p63:2 ^ (b - 1)*2 ^ s=9223372036854775808:=by rw[<-Nat.pow_add,show b - 1+s=63 by omega]
 have ps:0<2 ^ s:=Nat.two_pow_pos s;have p64':2 ^ (64 - s)*2 ^ s=18446744073709551616:=by rw[show 64 - s=b by omega];exact p64
 obtain⟨Y,hY⟩:∃ Y,Y=y*2 ^ s:=⟨_,rfl⟩;have Ov:9223372036854775808<=Y:=by rw[hY,<-p63];exact Nat.mul_le_mul_right _ b2
 have Jg:Y<18446744073709551616:=by rw[hY,<-p64];exact Nat.mul_lt_mul_of_pos_right b3 ps
 obtain⟨H,hH⟩:∃ H,H=hi*2 ^ s:=⟨_,rfl⟩;have hHY:H+2 ^ s<=Y:=by
  rw[hH,hY];have:=Nat.mul_le_mul_right (2 ^ s) (show hi+1<=y by omega)
  rwa [Nat.add_mul,Nat.one_mul] at this
 obtain⟨l1,hl1⟩:∃ l,l=lo / 2 ^ (64 - s):=⟨_,rfl⟩;have NH:l1<2 ^ s:=by
  rw[hl1,Nat.div_lt_iff_lt_mul (Nat.two_pow_pos _),Nat.mul_comm,p64'];exact hl
 have hor:H ||| l1=H+l1:=by
  rw[hH,Nat.mul_comm hi];exact (Nat.two_pow_add_eq_or_of_lt NH hi).symm
 obtain⟨d,hd⟩:∃ d,d=lo*2 ^ s % 18446744073709551616:=⟨_,rfl⟩;have dhi:d<18446744073709551616:=by rw[hd];exact Nat.mod_lt _ (by decide)
 have hsplit:lo*2 ^ s=l1*18446744073709551616+d:=by
  have h1:lo*2 ^ s / 18446744073709551616=l1:=by
   rw[hl1,<-p64',Nat.mul_div_mul_right _ _ ps]
  have h2:=Nat.div_add_mod (lo*2 ^ s) 18446744073709551616;rw[h1,<-hd,Nat.mul_comm] at h2;exact h2.symm
 have hN:(hi*18446744073709551616+lo)*2 ^ s=(H+l1)*4294967296*4294967296+d / 4294967296*4294967296+d % 4294967296:=by
  have e1:hi*18446744073709551616*2 ^ s=H*18446744073709551616:=by rw[hH,Nat.mul_right_comm]
  rw[Nat.add_mul,e1,hsplit];omega
 have two:=EH (B:=4294967296) (y:=Y) (u:=H+l1) (d1:=d / 4294967296) (d0:=d % 4294967296) (by decide);rw[<-hN] at two;refine⟨s,Y,Y / 4294967296,Y % 4294967296,H,l1,H+l1,d,d / 4294967296,d % 4294967296,by omega,by rw[<-hb];omega,hY,Ov,Jg,by omega,by omega,by omega,by omega,hH,hl1,by omega,hor,by omega,by omega,hd,by omega,by omega,by omega,?_,?_⟩
 ·rw[<-two.1,hY,Nat.mul_div_mul_right _ _ ps]
 rw[<-two.2,hY,Nat.mul_mod_mul_right,Nat.mul_div_cancel _ ps]
theorem sF {B y1 y0 u d:Nat} (hB:0<B) (hy:0<y1) (hd:d<B):(u*B+d) / (y1*B+y0)<=u / y1:=by
 have h1:(u*B+d) / (y1*B+y0)<=(u*B+d) / (y1*B):=Nat.div_le_div_left (Nat.le_add_right _ _) (Nat.mul_pos hy hB);have h2:(u*B+d) / (y1*B)=u / y1:=by
  rw[Nat.mul_comm y1 B,<-Nat.div_div_eq_div_mul,Nat.mul_comm u B,Nat.mul_add_div hB,Nat.div_eq_of_lt hd,Nat.add_zero]
 omega
structure KU (u d Y y1 y0 q r:Nat):Prop where
 sum:q*y1+r=u
 ge:(u*4294967296+d) / Y<=q
theorem KU.next {u d Y y1 y0 q r:Nat} (h:KU u d Y y1 y0 q r) (hY:Y=y1*4294967296+y0) (h0:y0<4294967296) (hu:u<Y) (hd:d<4294967296) (hc:4294967296<=q\/4294967296*r+d<q*y0) :
 1<=q/\KU u d Y y1 y0 (q - 1) (r+y1):=by
 have hlt:(u*4294967296+d) / Y<q:=by rw[hY] at hu ⊢;exact Jr h0 hu hd h.sum hc
 refine⟨Nat.lt_of_le_of_lt (Nat.zero_le _) hlt,⟨?_,Nat.le_sub_one_of_lt hlt⟩⟩;have:=h.sum;have e:q=(q - 1)+1:=by have:=Nat.lt_of_le_of_lt (Nat.zero_le _) hlt;omega
 rw[e,Nat.add_mul] at this;omega
theorem KU.done {u d Y y1 y0 q r:Nat} (h:KU u d Y y1 y0 q r) (hY:Y=y1*4294967296+y0) (h0:y0<4294967296) (hu:u<Y) (hc:q*y0<=4294967296*r+d):q=(u*4294967296+d) / Y:=by
 have h1:q<=(u*4294967296+d) / Y:=by rw[hY] at hu ⊢;exact Jq (by omega) h.sum hc
 exact Nat.le_antisymm h1 h.ge
structure iJ where
 rate:Int
 fU:Int
structure eU where
 name:ByteArray
 cur:Int
 price:Int
 dL:Int
structure Ins where
 kind:Int
 under:Int
 mult:Int
 strike:Int
 aU:Int
 call:Bool
 mark:Int
structure Acc where
 parent:Int
 aV:List Int
 flag:Bool
 last:Int
structure Pos where
 aG:Int
 instr:Int
 qty:Int
structure Ord where
 aG:Int
 id:Int
 instr:Int
 qty:Int
 price:Int
structure aH where
 day:Int
 aO:List iJ
 ah:List eU
 af:List Ins
 ai:List Acc
 aB:List Pos
 orders:List Ord
 aF:List Int
 aK:List Pos
def MO (ps:List Int):Nat->Nat->List Nat
 | 0,_=>[]
 | f+1,v=>v::(match ps[v]? with|some p=>if p=-1 then [] else MO ps f p.toNat|none=>[])
def jQ (ps:List Int) (v:Nat):List Nat:=MO ps (v+1) v
structure jB (ps:List Int):Prop where
 lo:2<=ps.length
 hi:ps.length<=16
 ok:∀ (v:Nat) (p:Int),ps[v]?=some p->p=-1\/(2<=v/\2<=p/\p<v/\(jQ ps v).length<=4)
def Falls (ps:List Int) (n:Nat):Prop:=∀ (v:Nat) (p:Int),v<n->ps[v]?=some p->p=-1\/(0<=p/\p<v)
theorem jB.falls {ps:List Int} (h:jB ps) (n:Nat):Falls ps n:=fun v p _ hp=>by
 rcases h.ok v p hp with h|h
 ·exact Or.inl h
 exact Or.inr (by omega)
theorem KJ {ps:List Int} {n:Nat} (h:Falls ps n):∀ (v f:Nat),v<n->v<f->MO ps f v=jQ ps v:=by
 intro v
 induction v using Nat.strongRecOn with
 | _ v ih =>
   intro f hv hf;obtain⟨f,rfl⟩:∃ g,f=g+1:=⟨f - 1,by omega⟩
   show v::_=v::_
   congr 1
   cases hp:ps[v]? with
   | none=>rfl
   | some p =>
     show (if p=-1 then [] else MO ps f p.toNat)=(if p=-1 then [] else MO ps v p.toNat)
     by_cases h1:p=-1
     ·rw[if_pos h1,if_pos h1]
     rw[if_neg h1,if_neg h1];rcases h v p hv hp with h2|h2
     ·exact absurd h2 h1
     rw[ih p.toNat (by omega) f (by omega) (by omega),ih p.toNat (by omega) v (by omega) (by omega)]
theorem pY {ps:List Int} {v:Nat} (h:ps[v]?=some (-1)):jQ ps v=[v]:=by
 unfold jQ MO;rw[h];rfl
theorem qc {ps:List Int} {n v:Nat} {p:Int} (hf:Falls ps n) (hv:v<n) (h:ps[v]?=some p) (hp:p≠-1):jQ ps v=v::jQ ps p.toNat:=by
 rcases hf v p hv h with h1|h1
 ·exact absurd h1 hp
 show v::_=_
 rw[h]
 show v::(if p=-1 then [] else MO ps v p.toNat)=_
 rw[if_neg hp,KJ hf p.toNat v (by omega) (by omega)]
theorem J9 {ps:List Int} {n:Nat} (hf:Falls ps n):∀ v,v<n->∀ u∈jQ ps v,u<=v:=by
 intro v
 induction v using Nat.strongRecOn with
 | _ v ih =>
   intro hv u hu
   cases hp:ps[v]? with
   | none=>unfold jQ MO at hu;rw[hp] at hu;simp at hu;omega
   | some p =>
     by_cases h1:p=-1
     ·rw[h1] at hp;rw[pY hp] at hu;simp at hu;omega
     rw[qc hf hv hp h1] at hu;rcases hf v p hv hp with h2|h2
     ·exact absurd h2 h1
     rcases List.mem_cons.1 hu with h3|h3
     ·omega
     have:=ih p.toNat (by omega) (by omega) u h3;omega
theorem Ef (ps:List Int) (v:Nat):v∈jQ ps v:=by unfold jQ MO;simp
def jM (ps:List Int) (v:Nat) (u:Nat):Bool:=decide (v∈jQ ps u)
def fK (ps:List Int) (v:Nat):List Nat:=(List.range ps.length).filter (jM ps v)
theorem pX {ps:List Int} {v u:Nat}:u∈fK ps v↔u<ps.length/\v∈jQ ps u:=by simp[fK,jM]
def gZ (ps:List Int) (v n:Nat):List Nat:=(List.range n).filter (jM ps v)
theorem wG {ps:List Int} {n v:Nat} (hf:Falls ps n) (hv:v<n):gZ ps v (v+1)=[v]:=by
 unfold gZ;rw[List.range_succ,List.filter_append];have h1:(List.range v).filter (jM ps v)=[]:=by
  rw[List.filter_eq_nil_iff];intro u hu
  simp only[jM,decide_eq_true_eq]
  intro h;have:=J9 hf u (by have:=List.mem_range.1 hu;omega) v h;have:=List.mem_range.1 hu;omega
 rw[h1];simp[jM,Ef]
theorem yH {ps:List Int} {n v u:Nat} {p:Int} (hf:Falls ps n) (hu:u<n) (hvu:v<u) (hp:ps[u]?=some p) :
 gZ ps v (u+1)=if p∈(gZ ps v u).map (fun x:Nat=>(x:Int)) then gZ ps v u++[u] else gZ ps v u:=by
 have e:gZ ps v (u+1)=gZ ps v u++(if jM ps v u=true then [u] else []):=by
  unfold gZ;rw[List.range_succ,List.filter_append]
  congr 1
  by_cases h:jM ps v u=true
  ·rw[if_pos h];simp[h]
  rw[if_neg h];simp[h]
 have hiff:p∈(gZ ps v u).map (fun x:Nat=>(x:Int))↔jM ps v u=true:=by
  simp only[jM,decide_eq_true_eq,List.mem_map,gZ,List.mem_filter,List.mem_range]
  rcases hf u p hu hp with h1|h1
  ·subst h1;rw[pY hp]
   constructor
   ·rintro⟨x,_,hx⟩;omega
   intro h;simp at h;omega
  rw[qc hf hu hp (by omega)]
  constructor
  ·rintro⟨x,⟨_,hx⟩,e⟩;have:p.toNat=x:=by omega
   rw[this];exact List.mem_cons_of_mem _ hx
  intro h;rcases List.mem_cons.1 h with h|h
  ·omega
  exact⟨p.toNat,⟨by omega,h⟩,by omega⟩
 rw[e];by_cases h:jM ps v u=true
 ·rw[if_pos h,if_pos (hiff.2 h)]
 rw[if_neg h,if_neg (fun x=>h (hiff.1 x)),List.append_nil]
def nameB (s:ByteArray):Bool:=decide (1<=s.size/\s.size<=8)&&s.data.toList.all fun c=>decide (65<=c.toNat/\c.toNat<=90)
def iJ.Ok (c:iJ) (n:Nat):Prop:=1<=c.rate/\c.rate<=1000000000000/\0<=c.fU/\c.fU<=10000/\(n=0->c.rate=1000000)
def eU.Ok (u:eU) (aO:Nat):Prop:=nameB u.name=true/\0<=u.cur/\u.cur<aO/\1<=u.price/\u.price<=1000000000000/\0<=u.dL/\u.dL<=50000
def Ins.Ok (i:Ins) (ah:Nat):Prop:=0<=i.under/\i.under<ah/\1<=i.mult/\i.mult<=1000000/\0<=i.mark/\i.mark<=100000000000000 /\
 ((i.kind=1/\i.strike=0/\i.aU=0/\i.call=false)\/(i.kind=2/\i.strike=0/\1<=i.aU/\i.aU<=100000/\i.call=false) \/
  (i.kind=3/\1<=i.strike/\i.strike<=1000000000000/\1<=i.aU/\i.aU<=100000))
def Acc.Ok (a:Acc) (v aO:Nat):Prop:=a.aV.length=aO/\0<=a.last/\a.last<=1099511627776/\(v<2->a.flag=false/\a.last=0)/\∀ x∈a.aV,aX x=true
def Pos.Ok (p:Pos) (ai af:Nat):Prop:=2<=p.aG/\p.aG<ai/\0<=p.instr/\p.instr<af/\p.qty≠0/\-1000000000<=p.qty/\p.qty<=1000000000
def Pos.Lt (p q:Pos):Prop:=p.aG<q.aG\/p.aG=q.aG/\p.instr<q.instr
def Ord.Ok (o:Ord) (ai af:Nat):Prop:=2<=o.aG/\o.aG<ai/\1<=o.id/\o.id<=1099511627776/\0<=o.instr/\o.instr<af/\o.qty≠0/\-1000000000<=o.qty/\o.qty<=1000000000/\1<=o.price/\o.price<=100000000000000
def Ord.Lt (p q:Ord):Prop:=p.aG<q.aG\/p.aG=q.aG/\p.id<q.id
def iq {α:Type} (lt:α->α->Prop) (l:List α):Prop:=∀ (i:Nat) (a b:α),l[i]?=some a->l[i+1]?=some b->lt a b
structure jZ (l:aH):Prop where
 c0:1<=l.aO.length
 c1:l.aO.length<=4
 u1:l.ah.length<=6
 i1:l.af.length<=12
 aO:∀ (n:Nat) c,l.aO[n]?=some c->c.Ok n
 ah:∀ (n:Nat) u,l.ah[n]?=some u->u.Ok l.aO.length
 names:∀ (n k:Nat) u v,k<n->l.ah[n]?=some u->l.ah[k]?=some v->v.name≠u.name
 af:∀ i∈l.af,i.Ok l.ah.length
structure jR (l:aH):Prop where
 tree:jB (l.ai.map (·.parent))
 ai:∀ (v:Nat) a,l.ai[v]?=some a->a.Ok v l.aO.length
structure mW (ps:List Pos) (ai af:Nat):Prop where
 len:ps.length<=64
 all:∀ p∈ps,p.Ok ai af
 rise:iq Pos.Lt ps
structure jv (os:List Ord) (ai af:Nat):Prop where
 len:os.length<=32
 all:∀ o∈os,o.Ok ai af
 rise:iq Ord.Lt os
structure uD (aF:List Int) (aK:List Pos) (ai af:Nat):Prop where
 len:aF.length=af
 DX:aK.length<=32
 aF:∀ q∈aF,0<=q/\q<=1000000000
 all:∀ x∈aK,2<=x.aG/\x.aG<ai/\0<=x.instr/\x.instr<af/\1<=x.qty/\x.qty<=1000000000
 rise:iq Pos.Lt aK
structure aH.Good (l:aH):Prop where
 d0:0<=l.day
 d1:l.day<=100000
 things:jZ l
 accounts:jR l
 aB:mW l.aB l.ai.length l.af.length
 orders:jv l.orders l.ai.length l.af.length
 aK:uD l.aF l.aK l.ai.length l.af.length
 ids:∀ o∈l.orders,∀ a,l.ai[o.aG.toNat]?=some a->o.id<=a.last
def valueA (call:Bool) (strike price dL days:Int):Int×Int :=
 if ¬ ((0<=strike/\strike<=100000000000000)/\(0<=price/\price<=100000000000000)/\(0<=dL/\dL<=100000000000000)) then (0,1)
 else if days<=0 then (max (if call then price - strike else strike - price) 0,0)
 else if 100000<days then (0,1)
 else if (fP dL days).2≠0 then (0,(fP dL days).2)
 else if (lC strike (fP dL days).1 3650000 0).2≠0 then (0,(lC strike (fP dL days).1 3650000 0).2)
 else gG (max (if call then price - strike else strike - price) 0) (max ((lC strike (fP dL days).1 3650000 0).1 - ((price - strike).natAbs:Int) / 2) 0)
def oK (i:Ins) (price dL day:Int):Int×Int :=
 if i.kind<1\/3<i.kind then (0,32)
 else if ¬ ((0<=price/\price<=100000000000000)/\(0<=dL/\dL<=100000000000000)/\(0<=day/\day<=100000)) then (0,1)
 else if i.kind≠3 then (price,0)
 else if i.aU<0\/100000<i.aU then (0,32)
 else valueA i.call i.strike price dL (i.aU - day)
def kL (s:Nat):Int:=[-2000,-1000,-500,0,500,1000,2000].getD (s / 3) 0
def ul (s:Nat):Int:=[-2500,0,2500].getD (s % 3) 0
def qh (price:Int) (s:Nat):Int:=price*(10000+kL s) / 10000
def qi (dL:Int) (s:Nat):Int:=dL*(10000+ul s) / 10000
def rX (i:Ins) (u:eU) (day:Int) (s:Nat):Int×Int:=oK i (qh u.price s) (qi u.dL s) day
def lF (r:Int×Int):Option Int:=if r.2=0 then some r.1 else none
def retA:Option Int->Int×Int
 | some x=>(x,0)
 | none=>(0,4)
def nP (a b:Int):Option Int:=lF (gG a b)
def oW (a b:Int):Option Int:=lF (gV a b)
def Lp (a b:Int):Option Int:=lF (fP a b)
def aH.ins (l:aH) (n:Int):Ins:=l.af.getD n.toNat ⟨0,0,0,0,0,false,0⟩
def aH.und (l:aH) (n:Int):eU:=l.ah.getD n.toNat ⟨⟨#[]⟩,0,0,0⟩
def aH.cur (l:aH) (n:Int):iJ:=l.aO.getD n.toNat ⟨0,0⟩
def aH.parents (l:aH):List Int:=l.ai.map (·.parent)
def aH.unit (l:aH) (instr:Int) (s:Nat):Int:=(rX (l.ins instr) (l.und (l.ins instr).under) l.day s).1
def kM (l:aH) (instr qty:Int) (s:Nat) (frm:Int):Option Int:=Lp (qty*(l.ins instr).mult) (l.unit instr s - frm)
def aH.hit (l:aH) (aG:Nat) (under:Int) (instr who:Int):Bool:=decide ((l.ins instr).under=under)&&jM l.parents aG who.toNat
def fF (l:aH) (aG:Nat) (under:Int) (s:Nat):List Pos->Int->Option Int
 | [],x=>some x
 | p::r,x=>if l.hit aG under p.instr p.aG=true then (kM l p.instr p.qty s (l.ins p.instr).mark).bind fun g=>(oW x g).bind fun y=>fF l aG under s r y else fF l aG under s r x
def dY (l:aH) (aG:Nat) (under:Int) (s:Nat):List Ord->Int->Option Int
 | [],x=>some x
 | o::r,x=>if l.hit aG under o.instr o.aG=true then (kM l o.instr o.qty s o.price).bind fun g=>(oW x (min g 0)).bind fun y=>dY l aG under s r y else dY l aG under s r x
def jG (l:aH) (aG:Nat) (under:Int) (s:Nat):Option Int:=(fF l aG under s l.aB 0).bind fun x=>dY l aG under s l.orders x
def gQ (l:aH) (aG:Nat) (under:Int):Nat->Option Int
 | 0=>some 0
 | s+1=>(gQ l aG under s).bind fun w=>(jG l aG under s).map fun x=>max w x
def oZ (c:iJ) (x mode:Int):Option Int:=lF (lC x c.rate 1000000 mode)
def nK (c:iJ) (x:Int):Option Int:=(oZ c x 0).bind fun y=>lF (lC y (if y<0 then 10000+c.fU else 10000 - c.fU) 10000 0)
def iE (l:aH) (aG:Nat):Nat->List eU->Int->Option Int
 | _,[],x=>some x
 | n,u::r,x=>(gQ l aG n 21).bind fun w=>(oZ (l.cur u.cur) w 1).bind fun b=>(nP x b).bind fun y=>iE l aG (n+1) r y
def vJ (l:aH) (aG:Nat):Option Int:=iE l aG 0 l.ah 0
def iw (n:Nat):List Acc->Int->Option Int
 | [],x=>some x
 | a::r,x=>(nP x (a.aV.getD n 0)).bind fun y=>iw n r y
def aH.under (l:aH) (aG:Nat):List Acc:=(fK l.parents aG).map fun v=>l.ai.getD v ⟨-1,[],false,0⟩
def iC (l:aH) (aG:Nat):Nat->List iJ->Int->Option Int
 | _,[],x=>some x
 | n,c::r,x=>(iw n (l.under aG) 0).bind fun k=>(nK c k).bind fun b=>(nP x b).bind fun y=>iC l aG (n+1) r y
def Ak (l:aH) (aG:Nat):Option Int:=iC l aG 0 l.aO 0
def dN (l:aH) (aG:Nat):Option Int:=(Ak l aG).bind fun h=>(vJ l aG).bind fun n=>oW h n
def fE (l:aH):Nat->List Acc->Option (List Acc)
 | _,[]=>some []
 | v,a::r=>if v<2 then (fE l (v+1) r).map (a::·) else (dN l v).bind fun x=>(fE l (v+1) r).map ({ a with flag:=decide (x<0) }::·)
def fM (l:aH):Option aH:=(fE l 0 l.ai).map fun as=>{ l with ai:=as }
theorem Lm (a b c:Nat) (ha:a<=4611686018427387904) (hb:b<=4611686018427387904) (hc:c<=4611686018427387904) (hc0:0<c):lC a b c 0=oz (a*b / c) false:=by
 have fa:aX (a:Int)=true:=aS.2 (by omega);have fb:aX (b:Int)=true:=aS.2 (by omega);have fc:aX (c:Int)=true:=aS.2 (by omega);have hn:Ea a b c=false:=by
  have h1:¬ (a:Int)<0:=by omega
  have h2:¬ (b:Int)<0:=by omega
  have h3:¬ (c:Int)<0:=by omega
  simp[Ea,h1,h2,h3]
 unfold lC;rw[if_neg (by simp[fa,fb,fc]),if_neg (by omega),hn];have hg:Dz 0 false=false:=by decide
 rw[hg,if_neg (by simp)];simp
theorem oO (a b c:Int) (k:Int) (ha:0<=a) (hb:0<=b) (ha':a<=4611686018427387904) (hb':b<=4611686018427387904) (hc:0<c) (hc':c<=4611686018427387904) (hk:a*b<=k*c) (hk':k<=4611686018427387904) :
 lC a b c 0=(a*b / c,0)/\0<=a*b / c/\a*b / c<=k:=by
 obtain⟨a,rfl⟩:=Int.eq_ofNat_of_zero_le ha;obtain⟨b,rfl⟩:=Int.eq_ofNat_of_zero_le hb;obtain⟨c,rfl⟩:=Int.eq_ofNat_of_zero_le (show 0<=c by omega);have h1:((a:Int)*b / c)<=k:=by
  have:=Int.ediv_le_ediv hc hk
  rwa [Int.mul_ediv_cancel _ (by omega)] at this
 have h0:(0:Int)<=(a:Int)*b / c:=Int.ediv_nonneg (Int.mul_nonneg ha hb) (by omega);have e:((a:Int)*b / c)=((a*b / c:Nat):Int):=by simp
 refine⟨?_,h0,h1⟩;rw[Lm a b c (by omega) (by omega) (by omega) (by omega),vM (by omega),e];rfl
theorem pG {a b:Int} (ha:aX a=true) (hb:aX b=true) (h:aX (a+b)=true):gG a b=(a+b,0):=by unfold gG;rw[if_pos ⟨ha,hb,h⟩]
theorem rJ {a b A B:Int} (ha:0<=a) (hb:0<=b) (h1:a<=A) (h2:b<=B):a*b<=A*B:=Int.mul_le_mul h1 h2 hb (by omega)
theorem IZ (call:Bool) (strike price dL days:Int) (s0:0<=strike) (s1:strike<=1000000000000) (p0:0<=price) (p1:price<=1200000000000) (v0:0<=dL) (v1:dL<=62500) (d1:days<=100000) :
 ∃ x,valueA call strike price dL days=(x,0)/\0<=x/\x<=2000000000000000:=by
 obtain⟨g,hg⟩:∃ g,g=(if call then price - strike else strike - price):=⟨_,rfl⟩;have g1:g<=1200000000000:=by rw[hg];split <;> omega
 unfold valueA;rw[<-hg,if_neg (by omega)];by_cases hd:days<=0
 ·rw[if_pos hd];exact⟨_,rfl,by omega,by omega⟩
 rw[if_neg hd,if_neg (by omega)];have m1:=rJ v0 (show 0<=days by omega) v1 d1;have m0:0<=dL*days:=Int.mul_nonneg v0 (by omega);have e1:fP dL days=(dL*days,0):=by
  rw[nC,if_pos ⟨aS.2 (by omega),aS.2 (by omega),aS.2 (by omega)⟩]
 rw[e1];have m2:=rJ s0 m0 s1 (show dL*days<=6250000000 by omega);obtain⟨e2,h0,h1⟩:=oO strike (dL*days) 3650000 1800000000000000 s0 m0 (by omega) (by omega) (by omega) (by omega) (by omega) (by omega);rw[e2];obtain⟨t,ht⟩:∃ t,t=strike*(dL*days) / 3650000:=⟨_,rfl⟩;rw[<-ht] at h0 h1 ⊢;rw[if_neg (by simp),if_neg (by simp)];obtain⟨q,hq⟩:∃ q:Int,q=((price - strike).natAbs:Int) / 2:=⟨_,rfl⟩;have hq0:0<=q:=by omega
 show ∃ x,gG (max g 0) (max (t - ((price - strike).natAbs:Int) / 2) 0)=(x,0)/\_
 rw[<-hq,pG (aS.2 (by omega)) (aS.2 (by omega)) (aS.2 (by omega))];exact⟨_,rfl,by omega,by omega⟩
theorem yh (s:Nat):-2000<=kL s/\kL s<=2000:=by
 unfold kL;generalize s / 3=k
 match k with
 | 0|1|2|3|4|5|6=>decide
 | k+7=>simp
theorem Gn (s:Nat):-2500<=ul s/\ul s<=2500:=by
 unfold ul;generalize s % 3=k
 match k with
 | 0|1|2=>decide
 | k+3=>simp
theorem rP {price:Int} (h0:0<=price) (h1:price<=1000000000000) (s:Nat):lC price (10000+kL s) 10000 0=(qh price s,0)/\0<=qh price s/\qh price s<=1200000000000:=by
 have hs:=yh s;have:=rJ h0 (show 0<=10000+kL s by omega) h1 (show 10000+kL s<=12000 by omega);exact oO price (10000+kL s) 10000 1200000000000 h0 (by omega) (by omega) (by omega) (by omega) (by omega) (by omega) (by omega)
theorem rQ {dL:Int} (h0:0<=dL) (h1:dL<=50000) (s:Nat):lC dL (10000+ul s) 10000 0=(qi dL s,0)/\0<=qi dL s/\qi dL s<=62500:=by
 have hs:=Gn s;have:=rJ h0 (show 0<=10000+ul s by omega) h1 (show 10000+ul s<=12500 by omega);exact oO dL (10000+ul s) 10000 62500 h0 (by omega) (by omega) (by omega) (by omega) (by omega) (by omega) (by omega)
theorem Cj {i:Ins} {n:Nat} (hi:i.Ok n) (price dL day:Int) (p0:0<=price) (p1:price<=1200000000000) (v0:0<=dL) (v1:dL<=62500) (d0:0<=day) (d1:day<=100000) :
 ∃ x,oK i price dL day=(x,0)/\0<=x/\x<=2000000000000000:=by
 obtain⟨_,_,_,_,_,_,hk⟩:=hi;unfold oK;rw[if_neg (by omega),if_neg (by omega)];by_cases h3:i.kind=3
 ·have hk3:1<=i.strike/\i.strike<=1000000000000/\1<=i.aU/\i.aU<=100000:=by
   rcases hk with h|h|h
   ·omega
   ·omega
   exact h.2
  rw[if_neg (by simp[h3]),if_neg (by omega)];exact IZ _ _ _ _ _ (by omega) (by omega) p0 p1 v0 v1 (by omega)
 rw[if_pos h3];exact⟨_,rfl,p0,by omega⟩
theorem IU {i:Ins} {u:eU} {n m:Nat} {day:Int} (hi:i.Ok n) (hu:u.Ok m) (d0:0<=day) (d1:day<=100000) (s:Nat) :
 ∃ x,rX i u day s=(x,0)/\0<=x/\x<=2000000000000000:=by
 obtain⟨_,_,_,p0,p1,v0,v1⟩:=hu;have hp:=rP (show 0<=u.price by omega) p1 s;have hv:=rQ v0 v1 s;exact Cj hi _ _ _ hp.2.1 hp.2.2 hv.2.1 hv.2.2 d0 d1
theorem aH.Good.DR {l:aH} (h:l.Good) {n:Int} (h0:0<=n) (h1:n<l.af.length):(l.ins n).Ok l.ah.length:=by
 have hn:n.toNat<l.af.length:=by omega
 unfold aH.ins;rw[List.getD_eq_getElem?_getD,List.getElem?_eq_getElem hn];exact h.things.af _ (List.getElem_mem _)
theorem aH.Good.zu {l:aH} (h:l.Good) {n:Int} (h0:0<=n) (h1:n<l.ah.length):(l.und n).Ok l.aO.length:=by
 have hn:n.toNat<l.ah.length:=by omega
 unfold aH.und;rw[List.getD_eq_getElem?_getD,List.getElem?_eq_getElem hn];exact h.things.ah n.toNat _ (List.getElem?_eq_getElem hn)
theorem aH.Good.MH {l:aH} (h:l.Good) {n:Int} (h0:0<=n) (h1:n<l.af.length) (s:Nat) :
 rX (l.ins n) (l.und (l.ins n).under) l.day s=(l.unit n s,0)/\0<=l.unit n s/\l.unit n s<=2000000000000000:=by
 have hi:=h.DR h0 h1;obtain⟨x,hx,a,b⟩:=IU hi (h.zu hi.1 hi.2.1) h.d0 h.d1 s;unfold aH.unit;rw[hx];exact⟨rfl,a,b⟩
theorem oP {r:Int×Int} {x:Int}:lF r=some x↔r=(x,0):=by
 obtain⟨a,e⟩:=r;unfold lF;by_cases h:e=0
 ·subst h;simp
 simp[h]
theorem wZ {a b x:Int}:nP a b=some x↔x=a+b/\aX a=true/\aX b=true/\aX (a+b)=true:=by
 unfold nP;rw[oP];unfold gG;by_cases h:aX a=true/\aX b=true/\aX (a+b)=true
 ·rw[if_pos h];constructor
  ·intro e;cases e;exact⟨rfl,h⟩
  rintro⟨rfl,_⟩;rfl
 rw[if_neg h];constructor
 ·intro e;cases e
 rintro⟨_,h2⟩;exact absurd h2 h
theorem II {a b x:Int}:oW a b=some x↔x=a - b/\aX a=true/\aX b=true/\aX (a - b)=true:=by
 unfold oW;rw[oP];unfold gV;by_cases h:aX a=true/\aX b=true/\aX (a - b)=true
 ·rw[if_pos h];constructor
  ·intro e;cases e;exact⟨rfl,h⟩
  rintro⟨rfl,_⟩;rfl
 rw[if_neg h];constructor
 ·intro e;cases e
 rintro⟨_,h2⟩;exact absurd h2 h
theorem H9 {a b x:Int}:Lp a b=some x↔x=a*b/\aX a=true/\aX b=true/\aX (a*b)=true:=by
 unfold Lp;rw[oP,nC];by_cases h:aX a=true/\aX b=true/\aX (a*b)=true
 ·rw[if_pos h];constructor
  ·intro e;cases e;exact⟨rfl,h⟩
  rintro⟨rfl,_⟩;rfl
 rw[if_neg h];constructor
 ·intro e;cases e
 rintro⟨_,h2⟩;exact absurd h2 h
theorem iq.pair {α:Type} {lt:α->α->Prop} (tr:∀ a b c,lt a b->lt b c->lt a c):∀ {l:List α},iq lt l->l.Pairwise lt
 | [],_=>List.Pairwise.nil
 | a::r,h=>by
   have hr:iq lt r:=fun i x y hx hy=>h (i+1) x y (by simpa using hx) (by simpa using hy)
   have ih:=iq.pair tr hr;refine List.Pairwise.cons ?_ ih;intro b hb
   cases r with
   | nil=>simp at hb
   | cons c t =>
     have h0:lt a c:=h 0 a c rfl rfl;rcases List.mem_cons.1 hb with rfl|hb
     ·exact h0
     exact tr _ _ _ h0 ((List.pairwise_cons.1 ih).1 b hb)
theorem wR {α:Type} {lt:α->α->Prop} {l:List α} (h:l.Pairwise lt):iq lt l:=by
 intro i a b ha hb;obtain⟨h1,rfl⟩:=List.getElem?_eq_some_iff.1 ha;obtain⟨h2,rfl⟩:=List.getElem?_eq_some_iff.1 hb;exact List.pairwise_iff_getElem.1 h i (i+1) h1 h2 (by omega)
theorem iq.sub {α:Type} {lt:α->α->Prop} (tr:∀ a b c,lt a b->lt b c->lt a c) {l m:List α} (h:iq lt l) (hs:m.Sublist l):iq lt m :=
 wR ((h.pair tr).sublist hs)
theorem Pos.Lt.trans (a b c:Pos) (h:Pos.Lt a b) (k:Pos.Lt b c):Pos.Lt a c:=by unfold Pos.Lt at *;omega
theorem Ord.Lt.trans (a b c:Ord) (h:Ord.Lt a b) (k:Ord.Lt b c):Ord.Lt a c:=by unfold Ord.Lt at *;omega
theorem aH.Good.NR {l:aH} (h:l.Good) {as:List Acc} (hp:as.map (·.parent)=l.ai.map (·.parent)) (hl:as.map (·.last)=l.ai.map (·.last))
 (ha:∀ (v:Nat) a,as[v]?=some a->a.Ok v l.aO.length):({ l with ai:=as }:aH).Good:=by
 have hn:as.length=l.ai.length:=by have:=congrArg List.length hp;simpa using this
 refine⟨h.d0,h.d1,⟨h.things.c0,h.things.c1,h.things.u1,h.things.i1,h.things.aO,h.things.ah,h.things.names,h.things.af⟩,⟨?_,ha⟩,?_,?_,?_,?_⟩
 ·show jB (as.map (·.parent))
  rw[hp];exact h.accounts.tree
 ·show mW l.aB as.length l.af.length
  rw[hn];exact h.aB
 ·show jv l.orders as.length l.af.length
  rw[hn];exact h.orders
 ·show uD l.aF l.aK as.length l.af.length
  rw[hn];exact h.aK
 intro o hm a hao;have h1:(as.map (·.last))[o.aG.toNat]?=some a.last:=by rw[List.getElem?_map,show as[o.aG.toNat]?=some a from hao];rfl
 rw[hl,List.getElem?_map] at h1
 cases h2:l.ai[o.aG.toNat]? with
 | none=>rw[h2] at h1;simp at h1
 | some b=>rw[h2] at h1;simp at h1;rw[<-h1];exact h.ids o hm b h2
theorem jE {l:aH}:∀ (as:List Acc) (v:Nat) (bs:List Acc),fE l v as=some bs->bs.length=as.length /\
 ∀ (k:Nat) a b,as[k]?=some a->bs[k]?=some b->b.parent=a.parent/\b.aV=a.aV/\b.last=a.last/\(v+k<2->b=a)
 | [],_,bs,h=>by cases h;exact⟨rfl,by simp⟩
 | a::r,v,bs,h=>by
   unfold fE at h;by_cases hv:v<2
   ·rw[if_pos hv,Option.map_eq_some_iff] at h;obtain⟨cs,h1,rfl⟩:=h;obtain⟨e,ih⟩:=jE r (v+1) cs h1;refine⟨by simp[e],fun k x y hx hy=>?_⟩
    cases k with
    | zero=>cases hx;cases hy;exact⟨rfl,rfl,rfl,fun _=>rfl⟩
    | succ k=>obtain⟨p,q,s,t⟩:=ih k x y hx hy;exact⟨p,q,s,fun hk=>t (by omega)⟩
   rw[if_neg hv,Option.bind_eq_some_iff] at h;obtain⟨x0,_,h⟩:=h;rw[Option.map_eq_some_iff] at h;obtain⟨cs,h1,rfl⟩:=h;obtain⟨e,ih⟩:=jE r (v+1) cs h1;refine⟨by simp[e],fun k x y hx hy=>?_⟩
   cases k with
   | zero=>cases hx;cases hy;exact⟨rfl,rfl,rfl,fun hk=>by omega⟩
   | succ k=>obtain⟨p,q,s,t⟩:=ih k x y hx hy;exact⟨p,q,s,fun hk=>t (by omega)⟩
theorem vw {α β:Type} (f:α->β) {as bs:List α} (hn:bs.length=as.length) (h:∀ (k:Nat) a b,as[k]?=some a->bs[k]?=some b->f b=f a):bs.map f=as.map f:=by
 apply List.ext_getElem?
 intro k;rw[List.getElem?_map,List.getElem?_map];by_cases hk:k<as.length
 ·rw[List.getElem?_eq_getElem hk,List.getElem?_eq_getElem (by omega)];exact congrArg some (h k _ _ (List.getElem?_eq_getElem hk) (List.getElem?_eq_getElem (by omega)))
 rw[List.getElem?_eq_none (by omega),List.getElem?_eq_none (by omega)]
theorem Ac {l m:aH} (h:l.Good) (hm:fM l=some m):m.Good:=by
 unfold fM at hm;rw[Option.map_eq_some_iff] at hm;obtain⟨bs,h1,rfl⟩:=hm;obtain⟨hn,hk⟩:=jE _ _ _ h1;refine h.NR (vw _ hn fun k a b ha hb=>(hk k a b ha hb).1) (vw _ hn fun k a b ha hb=>(hk k a b ha hb).2.2.1) (fun v b hb=>?_);have hv:v<l.ai.length:=by have:=(List.getElem?_eq_some_iff.1 hb).1;omega
 have ha:=List.getElem?_eq_getElem hv;obtain⟨p,q,s,t⟩:=hk v _ b ha hb;obtain⟨a1,a2,a3,a4,a5⟩:=h.accounts.ai v _ ha;refine⟨by rw[q];exact a1,by rw[s];exact a2,by rw[s];exact a3,fun hlt=>?_,by rw[q];exact a5⟩;rw[t (by omega)];exact a4 hlt
theorem pO {l m:aH} (hm:fM l=some m):m.day=l.day/\m.aO=l.aO/\m.ah=l.ah/\m.af=l.af/\m.aB=l.aB/\m.orders=l.orders/\m.aF=l.aF/\m.aK=l.aK/\fE l 0 l.ai=some m.ai:=by
 unfold fM at hm;rw[Option.map_eq_some_iff] at hm;obtain⟨bs,h1,rfl⟩:=hm;exact⟨rfl,rfl,rfl,rfl,rfl,rfl,rfl,rfl,h1⟩
structure Looks (l m:aH):Prop where
 af:l.af=m.af
 ah:l.ah=m.ah
 day:l.day=m.day
 parents:l.parents=m.parents
theorem Looks.hit {l m:aH} (h:Looks l m) (a:Nat) (u i w:Int):l.hit a u i w=m.hit a u i w:=by
 unfold aH.hit aH.ins;rw[h.af,h.parents]
theorem Looks.gain {l m:aH} (h:Looks l m) (i q:Int) (s:Nat) (f:Int):kM l i q s f=kM m i q s f:=by
 unfold kM aH.unit aH.und aH.ins;rw[h.af,h.ah,h.day]
theorem Looks.ins {l m:aH} (h:Looks l m) (i:Int):l.ins i=m.ins i:=by unfold aH.ins;rw[h.af]
theorem Looks.pos {l m:aH} (h:Looks l m) (a:Nat) (u:Int) (s:Nat):∀ (ps:List Pos) (x:Int),fF l a u s ps x=fF m a u s ps x
 | [],x=>rfl
 | p::r,x=>by
   unfold fF;rw[h.hit,h.gain,h.ins]
   simp only[h.pos a u s r]
theorem Looks.ord {l m:aH} (h:Looks l m) (a:Nat) (u:Int) (s:Nat):∀ (ps:List Ord) (x:Int),dY l a u s ps x=dY m a u s ps x
 | [],x=>rfl
 | p::r,x=>by
   unfold dY;rw[h.hit,h.gain]
   simp only[h.ord a u s r]
def vk (G:Nat->Int):Nat->Int
 | 0=>0
 | k+1=>vk G k+max (-(G k)) 0
def Oa (G:Nat->Int) (all:Bool) (n:Nat) (x:Int) (over:Bool):Prop:=over=true\/(-4611686018427387904<=x/\x<=4611686018427387904/\x<=vk G n/\(all=true->x=vk G n))
theorem Oa.skip {G:Nat->Int} {all:Bool} {n:Nat} {x:Int} {over:Bool} (h:Oa G all n x over) (hg:all=true->0<=G n):Oa G all (n+1) x over:=by
 rcases h with h|⟨h1,h2,h3,h4⟩
 ·exact Or.inl h
 refine Or.inr ⟨h1,h2,?_,fun ha=>?_⟩
 ·show x<=vk G n+max (-(G n)) 0;omega
 show x=vk G n+max (-(G n)) 0
 have:=hg ha;have:=h4 ha;omega
theorem Oa.lose {G:Nat->Int} {all:Bool} {n:Nat} {x y:Int} {over over':Bool} (h:Oa G all n x over) (hf:aX (G n)=true) (hg:G n<0)
 (hy:y=x+-(G n)\/(9223372036854775807<x+-(G n)/\y=x+-(G n) - 18446744073709551616)\/over=true) (ho:over'=(over||decide (4611686018427387904<y)||decide (y<0))):Oa G all (n+1) y over':=by
 have f:=aS.1 hf;rcases h with h|⟨h1,h2,h3,h4⟩
 ·exact Or.inl (by rw[ho,h];rfl)
 by_cases hov:over=true
 ·exact Or.inl (by rw[ho,hov];rfl)
 by_cases hb:4611686018427387904<y\/y<0
 ·refine Or.inl ?_;rw[ho];rcases hb with hb|hb
  ·simp[hb]
  simp[hb]
 refine Or.inr ⟨by omega,by omega,?_,fun ha=>?_⟩
 ·show y<=vk G n+max (-(G n)) 0
  rcases hy with hy|hy|hy
  ·omega
  ·omega
  exact absurd hy hov
 show y=vk G n+max (-(G n)) 0
 have:=h4 ha;rcases hy with hy|hy|hy
 ·omega
 ·omega
 exact absurd hy hov
end Go.Bw
