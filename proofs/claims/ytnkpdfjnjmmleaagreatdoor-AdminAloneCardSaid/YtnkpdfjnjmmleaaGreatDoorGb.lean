/- Joined: AmtP, DivP, LedP, MarP, MdP, MxP, MlP, MwP. -/
import Derived.WalkKit
import Derived.Lib.BitFns
import Derived.Lib.ItoaNum
set_option linter.unusedVariables false
set_option linter.unusedSimpArgs false
namespace Go.Bw
def fitsA (x:Int):Bool:=decide (-4611686018427387904 <= x /\ x <= 4611686018427387904)
theorem fitsA_true {x:Int}:fitsA x=true↔-4611686018427387904 <= x /\ x <= 4611686018427387904:=by simp[fitsA]
theorem fitsA_false {x:Int}:fitsA x=false↔x < -4611686018427387904 \/ 4611686018427387904<x:=by simp[fitsA];omega
def ofA (q:Nat) (neg:Bool):Int×Int:=if 4611686018427387904<q then (0,4) else (if neg then -(q:Int) else (q:Int),0)
def addA (a b:Int):Int×Int:=if fitsA a=true /\ fitsA b=true /\ fitsA (a+b)=true then (a+b,0) else (0,4)
def subA (a b:Int):Int×Int:=if fitsA a=true /\ fitsA b=true /\ fitsA (a - b)=true then (a - b,0) else (0,4)
def mulA (a b:Int):Int×Int:=if fitsA a=true /\ fitsA b=true then ofA (a.natAbs*b.natAbs) (decide (a<0) != decide (b<0)) else (0,4)
def growsA (mode:Int) (neg:Bool):Bool:=decide (mode=3)||(decide (mode=1)&&!neg)||(decide (mode=0)&&neg)
def negA (a b c:Int):Bool:=((decide (a<0) != decide (b<0)) != decide (c<0))
def mdA (a b c mode:Int):Int×Int :=
 if ¬ (fitsA a=true /\ fitsA b=true /\ fitsA c=true) then (0,4)
 else if c=0 \/ mode<0 \/ 3<mode then (0,1)
 else ofA (a.natAbs*b.natAbs / c.natAbs+if a.natAbs*b.natAbs % c.natAbs≠0 /\ growsA mode (negA a b c)=true then 1 else 0) (negA a b c)
section
variable {B y1 y0 u d q r:Nat}
theorem digit_up (h0:y0<B) (hu:u<y1*B+y0) (hd:d<B) (hq:q*y1+r=u) (h:B <= q \/ B*r+d<q*y0):(u*B+d) / (y1*B+y0)<q:=by
 rw[Nat.div_lt_iff_lt_mul (by omega)]
 rcases h with h|h
 ·have h1:u*B+B <= (y1*B+y0)*B:=by
   have:=Nat.mul_le_mul_right B (show u+1 <= y1*B+y0 by omega)
   rwa [Nat.add_mul,Nat.one_mul] at this
  have h2:(y1*B+y0)*B <= q*(y1*B+y0):=by rw[Nat.mul_comm q];exact Nat.mul_le_mul_left _ h
  omega
 ·have e1:q*(y1*B+y0)=q*y1*B+q*y0:=by rw[Nat.mul_add,Nat.mul_assoc]
  have e2:u*B=q*y1*B+r*B:=by rw[<- hq,Nat.add_mul]
  rw[e1,e2]
  have:B*r=r*B:=Nat.mul_comm _ _
  omega
theorem digit_lo (hy:0<y1*B+y0) (hq:q*y1+r=u) (h:q*y0 <= B*r+d):q <= (u*B+d) / (y1*B+y0):=by
 rw[Nat.le_div_iff_mul_le hy]
 have e1:q*(y1*B+y0)=q*y1*B+q*y0:=by rw[Nat.mul_add,Nat.mul_assoc]
 have e2:u*B=q*y1*B+r*B:=by rw[<- hq,Nat.add_mul]
 rw[e1,e2]
 have:B*r=r*B:=Nat.mul_comm _ _
 omega
theorem digit_break (h0:y0<B) (hr:B <= r) (hq:q <= B):q*y0 <= B*r+d :=
 Nat.le_trans (Nat.mul_le_mul hq (show y0 <= r by omega)) (Nat.le_add_right _ _)
theorem digit_top (h1:B <= 2*y1) (h0:y0<B) (hu:u<y1*B+y0):u / y1 <= B+1:=by
 have hy:0<y1:=by omega
 have:u / y1<B+2:=by
  rw[Nat.div_lt_iff_lt_mul hy,Nat.add_mul,Nat.mul_comm B y1]
  omega
 omega
theorem digit_lt (hu:u<y1*B+y0) (hd:d<B):(u*B+d) / (y1*B+y0)<B:=by
 rw[Nat.div_lt_iff_lt_mul (by omega)]
 have:=Nat.mul_le_mul_right B (show u+1 <= y1*B+y0 by omega)
 rw[Nat.add_mul,Nat.one_mul] at this
 have e:=Nat.mul_comm B (y1*B+y0)
 omega
end
theorem two_digits {B y u d1 d0:Nat} (hB:0<B) :
 (u*B*B+d1*B+d0) / y=(u*B+d1) / y*B+((u*B+d1) % y*B+d0) / y /\ (u*B*B+d1*B+d0) % y=((u*B+d1) % y*B+d0) % y:=by
 have e:u*B*B+d1*B+d0=(u*B+d1)*B+d0:=by rw[Nat.add_mul]
 rw[e]
 have h:(u*B+d1)*B+d0=((u*B+d1) % y*B+d0)+y*((u*B+d1) / y*B):=by
  have h1:=Nat.div_add_mod (u*B+d1) y
  have h2:(u*B+d1)*B=(y*((u*B+d1) / y)+(u*B+d1) % y)*B:=by rw[h1]
  rw[h2,Nat.add_mul,Nat.mul_assoc]
  omega
 rcases Nat.eq_zero_or_pos y with h0|h0
 ·subst h0;simp
 ·rw[h,Nat.add_mul_div_left _ _ h0,Nat.add_mul_mod_self_left]
  exact⟨Nat.add_comm _ _,rfl⟩
theorem ofA_ok {q:Nat} {neg:Bool} (h:q <= 4611686018427387904):ofA q neg=(if neg then -(q:Int) else (q:Int),0):=by unfold ofA;rw[if_neg (by omega)]
theorem ofA_over {q:Nat} {neg:Bool} (h:4611686018427387904<q):ofA q neg=(0,4):=by unfold ofA;rw[if_pos h]
theorem signed_mul (a b:Int):(if (decide (a<0) != decide (b<0))=true then -((a.natAbs*b.natAbs:Nat):Int) else ((a.natAbs*b.natAbs:Nat):Int))=a*b:=by
 rcases Int.natAbs_eq a with ha|ha <;> rcases Int.natAbs_eq b with hb|hb <;>
 ·have e:((a.natAbs*b.natAbs:Nat):Int)=(a.natAbs:Int)*(b.natAbs:Int):=Int.natCast_mul _ _
  by_cases h1:a<0 <;> by_cases h2:b<0 <;> simp only[h1,h2,decide_true,decide_false,bne_self_eq_false,Bool.false_bne,Bool.true_bne,Bool.not_false,Bool.not_true,if_true,Bool.false_eq_true,if_false,e]
  all_goals
   have ha':(a.natAbs:Int)=if a<0 then -a else a:=by split <;> omega
   have hb':(b.natAbs:Int)=if b<0 then -b else b:=by split <;> omega
   rw[ha',hb']
   simp[h1,h2,Int.neg_mul,Int.mul_neg]
theorem mulA_eq (a b:Int):mulA a b=if fitsA a=true /\ fitsA b=true /\ fitsA (a*b)=true then (a*b,0) else (0,4):=by
 unfold mulA
 by_cases h:fitsA a=true /\ fitsA b=true
 ·rw[if_pos h]
  have e:(a*b).natAbs=a.natAbs*b.natAbs:=Int.natAbs_mul a b
  by_cases hf:fitsA (a*b)=true
  ·have hf':=fitsA_true.1 hf
   rw[if_pos ⟨h.1,h.2,hf⟩,ofA_ok (by omega),signed_mul]
  ·have hf':=fitsA_false.1 (by simpa using hf)
   rw[if_neg (fun x=>hf x.2.2),ofA_over (by omega)]
 ·rw[if_neg h,if_neg (fun x=>h ⟨x.1,x.2.1⟩)]
end Go.Bw
namespace Go.Bw
theorem bitLen_bounds (x:Nat) (h:x<18446744073709551616) (h0:x≠0):1 <= Lib.bitLen x /\ 2 ^ (Lib.bitLen x - 1) <= x /\ x<2 ^ Lib.bitLen x /\ Lib.bitLen x <= 64:=by
 obtain⟨h1,h2,h3⟩:=Lib.bitLenAux_bounds 64 x (by omega) h0
 exact⟨h1,h2,h3,Lib.bitLen_le x 64 (by omega) (by omega)⟩
structure DivS (hi lo y s Y y1 y0 H l1 u d d1 d0:Nat):Prop where
 s1:s <= 63
 es:(64:Int) - (Lib.bitLen y:Nat)=(s:Nat)
 eY:Y=y*2 ^ s
 Ylo:9223372036854775808 <= Y
 Yhi:Y<18446744073709551616
 ey:Y=y1*4294967296+y0
 y1lo:2147483648 <= y1
 y1hi:y1<4294967296
 y0hi:y0<4294967296
 eH:H=hi*2 ^ s
 el1:l1=lo / 2 ^ (64 - s)
 Hhi:H<18446744073709551616
 or_:H ||| l1=u
 uhi:u<Y
 l1hi:l1<18446744073709551616
 ed:d=lo*2 ^ s % 18446744073709551616
 edd:d=d1*4294967296+d0
 d1hi:d1<4294967296
 d0hi:d0<4294967296
 quo:(hi*18446744073709551616+lo) / y=(u*4294967296+d1) / Y*4294967296+((u*4294967296+d1) % Y*4294967296+d0) / Y
 rem:(hi*18446744073709551616+lo) % y=((u*4294967296+d1) % Y*4294967296+d0) % Y / 2 ^ s
theorem div_setup (hi lo y:Nat) (hy:hi<y) (hl:lo<18446744073709551616) (hyl:y<18446744073709551616) :
 ∃ s Y y1 y0 H l1 u d d1 d0,DivS hi lo y s Y y1 y0 H l1 u d d1 d0:=by
 obtain⟨b1,b2,b3,b4⟩:=bitLen_bounds y hyl (by omega)
 obtain⟨b,hb⟩:∃ b,b=Lib.bitLen y:=⟨_,rfl⟩
 rw[<- hb] at b1 b2 b3 b4
 obtain⟨s,hs⟩:∃ s,s=64 - b:=⟨_,rfl⟩
 have hsb:b+s=64:=by omega
 have p64:2 ^ b*2 ^ s=18446744073709551616:=by rw[<- Nat.pow_add,hsb]
 have p63:2 ^ (b - 1)*2 ^ s=9223372036854775808:=by rw[<- Nat.pow_add,show b - 1+s=63 by omega]
 have ps:0<2 ^ s:=Nat.two_pow_pos s
 have p64':2 ^ (64 - s)*2 ^ s=18446744073709551616:=by rw[show 64 - s=b by omega];exact p64
 obtain⟨Y,hY⟩:∃ Y,Y=y*2 ^ s:=⟨_,rfl⟩
 have Ylo:9223372036854775808 <= Y:=by rw[hY,<- p63];exact Nat.mul_le_mul_right _ b2
 have Yhi:Y<18446744073709551616:=by rw[hY,<- p64];exact Nat.mul_lt_mul_of_pos_right b3 ps
 obtain⟨H,hH⟩:∃ H,H=hi*2 ^ s:=⟨_,rfl⟩
 have hHY:H+2 ^ s <= Y:=by
  rw[hH,hY]
  have:=Nat.mul_le_mul_right (2 ^ s) (show hi+1 <= y by omega)
  rwa [Nat.add_mul,Nat.one_mul] at this
 obtain⟨l1,hl1⟩:∃ l,l=lo / 2 ^ (64 - s):=⟨_,rfl⟩
 have l1hi:l1<2 ^ s:=by
  rw[hl1,Nat.div_lt_iff_lt_mul (Nat.two_pow_pos _),Nat.mul_comm,p64'];exact hl
 have hor:H ||| l1=H+l1:=by
  rw[hH,Nat.mul_comm hi]
  exact (Nat.two_pow_add_eq_or_of_lt l1hi hi).symm
 obtain⟨d,hd⟩:∃ d,d=lo*2 ^ s % 18446744073709551616:=⟨_,rfl⟩
 have dhi:d<18446744073709551616:=by rw[hd];exact Nat.mod_lt _ (by decide)
 have hsplit:lo*2 ^ s=l1*18446744073709551616+d:=by
  have h1:lo*2 ^ s / 18446744073709551616=l1:=by
   rw[hl1,<- p64',Nat.mul_div_mul_right _ _ ps]
  have h2:=Nat.div_add_mod (lo*2 ^ s) 18446744073709551616
  rw[h1,<- hd,Nat.mul_comm] at h2
  exact h2.symm
 have hN:(hi*18446744073709551616+lo)*2 ^ s=(H+l1)*4294967296*4294967296+d / 4294967296*4294967296+d % 4294967296:=by
  have e1:hi*18446744073709551616*2 ^ s=H*18446744073709551616:=by rw[hH,Nat.mul_right_comm]
  rw[Nat.add_mul,e1,hsplit]
  omega
 have two:=two_digits (B:=4294967296) (y:=Y) (u:=H+l1) (d1:=d / 4294967296) (d0:=d % 4294967296) (by decide)
 rw[<- hN] at two
 refine⟨s,Y,Y / 4294967296,Y % 4294967296,H,l1,H+l1,d,d / 4294967296,d % 4294967296,by omega,by rw[<- hb];omega,hY,Ylo,Yhi,by omega,by omega,by omega,by omega,hH,hl1,by omega,hor,by omega,by omega,hd,by omega,by omega,by omega,?_,?_⟩
 ·rw[<- two.1,hY,Nat.mul_div_mul_right _ _ ps]
 ·rw[<- two.2,hY,Nat.mul_mod_mul_right,Nat.mul_div_cancel _ ps]
theorem digit_start {B y1 y0 u d:Nat} (hB:0<B) (hy:0<y1) (hd:d<B):(u*B+d) / (y1*B+y0) <= u / y1:=by
 have h1:(u*B+d) / (y1*B+y0) <= (u*B+d) / (y1*B):=Nat.div_le_div_left (Nat.le_add_right _ _) (Nat.mul_pos hy hB)
 have h2:(u*B+d) / (y1*B)=u / y1:=by
  rw[Nat.mul_comm y1 B,<- Nat.div_div_eq_div_mul,Nat.mul_comm u B,Nat.mul_add_div hB,Nat.div_eq_of_lt hd,Nat.add_zero]
 omega
structure Dig (u d Y y1 y0 q r:Nat):Prop where
 sum:q*y1+r=u
 ge:(u*4294967296+d) / Y <= q
theorem Dig.next {u d Y y1 y0 q r:Nat} (h:Dig u d Y y1 y0 q r) (hY:Y=y1*4294967296+y0) (h0:y0<4294967296) (hu:u<Y) (hd:d<4294967296) (hc:4294967296 <= q \/ 4294967296*r+d<q*y0) :
 1 <= q /\ Dig u d Y y1 y0 (q - 1) (r+y1):=by
 have hlt:(u*4294967296+d) / Y<q:=by rw[hY] at hu ⊢;exact digit_up h0 hu hd h.sum hc
 refine⟨Nat.lt_of_le_of_lt (Nat.zero_le _) hlt,⟨?_,Nat.le_sub_one_of_lt hlt⟩⟩
 have:=h.sum
 have e:q=(q - 1)+1:=by have:=Nat.lt_of_le_of_lt (Nat.zero_le _) hlt;omega
 rw[e,Nat.add_mul] at this
 omega
theorem Dig.done {u d Y y1 y0 q r:Nat} (h:Dig u d Y y1 y0 q r) (hY:Y=y1*4294967296+y0) (h0:y0<4294967296) (hu:u<Y) (hc:q*y0 <= 4294967296*r+d):q=(u*4294967296+d) / Y:=by
 have h1:q <= (u*4294967296+d) / Y:=by rw[hY] at hu ⊢;exact digit_lo (by omega) h.sum hc
 exact Nat.le_antisymm h1 h.ge
structure Cur where
 rate:Int
 hair:Int
structure Und where
 name:ByteArray
 cur:Int
 price:Int
 vol:Int
structure Ins where
 kind:Int
 under:Int
 mult:Int
 strike:Int
 expiry:Int
 call:Bool
 mark:Int
structure Acc where
 parent:Int
 cash:List Int
 flag:Bool
 last:Int
structure Pos where
 acct:Int
 instr:Int
 qty:Int
structure Ord where
 acct:Int
 id:Int
 instr:Int
 qty:Int
 price:Int
structure Led where
 day:Int
 curs:List Cur
 unders:List Und
 instrs:List Ins
 accts:List Acc
 poss:List Pos
 orders:List Ord
 avail:List Int
 locs:List Pos
def upL (ps:List Int):Nat -> Nat -> List Nat
 | 0,_=>[]
 | f+1,v=>v::(match ps[v]? with|some p=>if p=-1 then [] else upL ps f p.toNat|none=>[])
def pathL (ps:List Int) (v:Nat):List Nat:=upL ps (v+1) v
structure TreeOk (ps:List Int):Prop where
 lo:2 <= ps.length
 hi:ps.length <= 16
 ok:∀ (v:Nat) (p:Int),ps[v]?=some p -> p=-1 \/ (2 <= v /\ 2 <= p /\ p<v /\ (pathL ps v).length <= 4)
def Falls (ps:List Int) (n:Nat):Prop:=∀ (v:Nat) (p:Int),v<n -> ps[v]?=some p -> p=-1 \/ (0 <= p /\ p<v)
theorem TreeOk.falls {ps:List Int} (h:TreeOk ps) (n:Nat):Falls ps n:=fun v p _ hp=>by
 rcases h.ok v p hp with h|h
 ·exact Or.inl h
 ·exact Or.inr (by omega)
theorem upL_more {ps:List Int} {n:Nat} (h:Falls ps n):∀ (v f:Nat),v<n -> v<f -> upL ps f v=pathL ps v:=by
 intro v
 induction v using Nat.strongRecOn with
 | _ v ih =>
   intro f hv hf
   obtain⟨f,rfl⟩:∃ g,f=g+1:=⟨f - 1,by omega⟩
   show v::_=v::_
   congr 1
   cases hp:ps[v]? with
   | none=>rfl
   | some p =>
     show (if p=-1 then [] else upL ps f p.toNat)=(if p=-1 then [] else upL ps v p.toNat)
     by_cases h1:p=-1
     ·rw[if_pos h1,if_pos h1]
     ·rw[if_neg h1,if_neg h1]
      rcases h v p hv hp with h2|h2
      ·exact absurd h2 h1
      ·rw[ih p.toNat (by omega) f (by omega) (by omega),ih p.toNat (by omega) v (by omega) (by omega)]
theorem pathL_root {ps:List Int} {v:Nat} (h:ps[v]?=some (-1)):pathL ps v=[v]:=by
 unfold pathL upL;rw[h];rfl
theorem pathL_step {ps:List Int} {n v:Nat} {p:Int} (hf:Falls ps n) (hv:v<n) (h:ps[v]?=some p) (hp:p≠-1):pathL ps v=v::pathL ps p.toNat:=by
 rcases hf v p hv h with h1|h1
 ·exact absurd h1 hp
 ·show v::_=_
  rw[h]
  show v::(if p=-1 then [] else upL ps v p.toNat)=_
  rw[if_neg hp,upL_more hf p.toNat v (by omega) (by omega)]
theorem pathL_le {ps:List Int} {n:Nat} (hf:Falls ps n):∀ v,v<n -> ∀ u∈pathL ps v,u <= v:=by
 intro v
 induction v using Nat.strongRecOn with
 | _ v ih =>
   intro hv u hu
   cases hp:ps[v]? with
   | none=>unfold pathL upL at hu;rw[hp] at hu;simp at hu;omega
   | some p =>
     by_cases h1:p=-1
     ·rw[h1] at hp;rw[pathL_root hp] at hu;simp at hu;omega
     ·rw[pathL_step hf hv hp h1] at hu
      rcases hf v p hv hp with h2|h2
      ·exact absurd h2 h1
      ·rcases List.mem_cons.1 hu with h3|h3
       ·omega
       ·have:=ih p.toNat (by omega) (by omega) u h3;omega
theorem pathL_self (ps:List Int) (v:Nat):v∈pathL ps v:=by unfold pathL upL;simp
def underL (ps:List Int) (v:Nat) (u:Nat):Bool:=decide (v∈pathL ps u)
def belowL (ps:List Int) (v:Nat):List Nat:=(List.range ps.length).filter (underL ps v)
theorem mem_belowL {ps:List Int} {v u:Nat}:u∈belowL ps v↔u<ps.length /\ v∈pathL ps u:=by simp[belowL,underL]
def belowTo (ps:List Int) (v n:Nat):List Nat:=(List.range n).filter (underL ps v)
theorem belowTo_start {ps:List Int} {n v:Nat} (hf:Falls ps n) (hv:v<n):belowTo ps v (v+1)=[v]:=by
 unfold belowTo
 rw[List.range_succ,List.filter_append]
 have h1:(List.range v).filter (underL ps v)=[]:=by
  rw[List.filter_eq_nil_iff]
  intro u hu
  simp only[underL,decide_eq_true_eq]
  intro h
  have:=pathL_le hf u (by have:=List.mem_range.1 hu;omega) v h
  have:=List.mem_range.1 hu
  omega
 rw[h1]
 simp[underL,pathL_self]
theorem belowTo_step {ps:List Int} {n v u:Nat} {p:Int} (hf:Falls ps n) (hu:u<n) (hvu:v<u) (hp:ps[u]?=some p) :
 belowTo ps v (u+1)=if p∈(belowTo ps v u).map (fun x:Nat=>(x:Int)) then belowTo ps v u++[u] else belowTo ps v u:=by
 have e:belowTo ps v (u+1)=belowTo ps v u++(if underL ps v u=true then [u] else []):=by
  unfold belowTo
  rw[List.range_succ,List.filter_append]
  congr 1
  by_cases h:underL ps v u=true
  ·rw[if_pos h];simp[h]
  ·rw[if_neg h];simp[h]
 have hiff:p∈(belowTo ps v u).map (fun x:Nat=>(x:Int))↔underL ps v u=true:=by
  simp only[underL,decide_eq_true_eq,List.mem_map,belowTo,List.mem_filter,List.mem_range]
  rcases hf u p hu hp with h1|h1
  ·subst h1
   rw[pathL_root hp]
   constructor
   ·rintro⟨x,_,hx⟩;omega
   ·intro h;simp at h;omega
  ·rw[pathL_step hf hu hp (by omega)]
   constructor
   ·rintro⟨x,⟨_,hx⟩,e⟩
    have:p.toNat=x:=by omega
    rw[this];exact List.mem_cons_of_mem _ hx
   ·intro h
    rcases List.mem_cons.1 h with h|h
    ·omega
    ·exact⟨p.toNat,⟨by omega,h⟩,by omega⟩
 rw[e]
 by_cases h:underL ps v u=true
 ·rw[if_pos h,if_pos (hiff.2 h)]
 ·rw[if_neg h,if_neg (fun x=>h (hiff.1 x)),List.append_nil]
def nameB (s:ByteArray):Bool:=decide (1 <= s.size /\ s.size <= 8)&&s.data.toList.all fun c=>decide (65 <= c.toNat /\ c.toNat <= 90)
def Cur.Ok (c:Cur) (n:Nat):Prop:=1 <= c.rate /\ c.rate <= 1000000000000 /\ 0 <= c.hair /\ c.hair <= 10000 /\ (n=0 -> c.rate=1000000)
def Und.Ok (u:Und) (curs:Nat):Prop:=nameB u.name=true /\ 0 <= u.cur /\ u.cur<curs /\ 1 <= u.price /\ u.price <= 1000000000000 /\ 0 <= u.vol /\ u.vol <= 50000
def Ins.Ok (i:Ins) (unders:Nat):Prop:=0 <= i.under /\ i.under<unders /\ 1 <= i.mult /\ i.mult <= 1000000 /\ 0 <= i.mark /\ i.mark <= 100000000000000 /\
 ((i.kind=1 /\ i.strike=0 /\ i.expiry=0 /\ i.call=false) \/ (i.kind=2 /\ i.strike=0 /\ 1 <= i.expiry /\ i.expiry <= 100000 /\ i.call=false) \/
  (i.kind=3 /\ 1 <= i.strike /\ i.strike <= 1000000000000 /\ 1 <= i.expiry /\ i.expiry <= 100000))
def Acc.Ok (a:Acc) (v curs:Nat):Prop:=a.cash.length=curs /\ 0 <= a.last /\ a.last <= 1099511627776 /\ (v<2 -> a.flag=false /\ a.last=0) /\ ∀ x∈a.cash,fitsA x=true
def Pos.Ok (p:Pos) (accts instrs:Nat):Prop:=2 <= p.acct /\ p.acct<accts /\ 0 <= p.instr /\ p.instr<instrs /\ p.qty≠0 /\ -1000000000 <= p.qty /\ p.qty <= 1000000000
def Pos.Lt (p q:Pos):Prop:=p.acct<q.acct \/ p.acct=q.acct /\ p.instr<q.instr
def Ord.Ok (o:Ord) (accts instrs:Nat):Prop:=2 <= o.acct /\ o.acct<accts /\ 1 <= o.id /\ o.id <= 1099511627776 /\ 0 <= o.instr /\ o.instr<instrs /\ o.qty≠0 /\ -1000000000 <= o.qty /\ o.qty <= 1000000000 /\ 1 <= o.price /\ o.price <= 100000000000000
def Ord.Lt (p q:Ord):Prop:=p.acct<q.acct \/ p.acct=q.acct /\ p.id<q.id
def Rises {α:Type} (lt:α -> α -> Prop) (l:List α):Prop:=∀ (i:Nat) (a b:α),l[i]?=some a -> l[i+1]?=some b -> lt a b
structure ThingsOk (l:Led):Prop where
 c0:1 <= l.curs.length
 c1:l.curs.length <= 4
 u1:l.unders.length <= 6
 i1:l.instrs.length <= 12
 curs:∀ (n:Nat) c,l.curs[n]?=some c -> c.Ok n
 unders:∀ (n:Nat) u,l.unders[n]?=some u -> u.Ok l.curs.length
 names:∀ (n k:Nat) u v,k<n -> l.unders[n]?=some u -> l.unders[k]?=some v -> v.name≠u.name
 instrs:∀ i∈l.instrs,i.Ok l.unders.length
structure AccountsOk (l:Led):Prop where
 tree:TreeOk (l.accts.map (·.parent))
 accts:∀ (v:Nat) a,l.accts[v]?=some a -> a.Ok v l.curs.length
structure PossOk (ps:List Pos) (accts instrs:Nat):Prop where
 len:ps.length <= 64
 all:∀ p∈ps,p.Ok accts instrs
 rise:Rises Pos.Lt ps
structure OrdersOk (os:List Ord) (accts instrs:Nat):Prop where
 len:os.length <= 32
 all:∀ o∈os,o.Ok accts instrs
 rise:Rises Ord.Lt os
structure LocsOk (avail:List Int) (locs:List Pos) (accts instrs:Nat):Prop where
 len:avail.length=instrs
 locn:locs.length <= 32
 avail:∀ q∈avail,0 <= q /\ q <= 1000000000
 all:∀ x∈locs,2 <= x.acct /\ x.acct<accts /\ 0 <= x.instr /\ x.instr<instrs /\ 1 <= x.qty /\ x.qty <= 1000000000
 rise:Rises Pos.Lt locs
structure Led.Good (l:Led):Prop where
 d0:0 <= l.day
 d1:l.day <= 100000
 things:ThingsOk l
 accounts:AccountsOk l
 poss:PossOk l.poss l.accts.length l.instrs.length
 orders:OrdersOk l.orders l.accts.length l.instrs.length
 locs:LocsOk l.avail l.locs l.accts.length l.instrs.length
 ids:∀ o∈l.orders,∀ a,l.accts[o.acct.toNat]?=some a -> o.id <= a.last
def valueA (call:Bool) (strike price vol days:Int):Int×Int :=
 if ¬ ((0 <= strike /\ strike <= 100000000000000) /\ (0 <= price /\ price <= 100000000000000) /\ (0 <= vol /\ vol <= 100000000000000)) then (0,1)
 else if days <= 0 then (max (if call then price - strike else strike - price) 0,0)
 else if 100000<days then (0,1)
 else if (mulA vol days).2≠0 then (0,(mulA vol days).2)
 else if (mdA strike (mulA vol days).1 3650000 0).2≠0 then (0,(mdA strike (mulA vol days).1 3650000 0).2)
 else addA (max (if call then price - strike else strike - price) 0) (max ((mdA strike (mulA vol days).1 3650000 0).1 - ((price - strike).natAbs:Int) / 2) 0)
def unitA (i:Ins) (price vol day:Int):Int×Int :=
 if i.kind<1 \/ 3<i.kind then (0,32)
 else if ¬ ((0 <= price /\ price <= 100000000000000) /\ (0 <= vol /\ vol <= 100000000000000) /\ (0 <= day /\ day <= 100000)) then (0,1)
 else if i.kind≠3 then (price,0)
 else if i.expiry<0 \/ 100000<i.expiry then (0,32)
 else valueA i.call i.strike price vol (i.expiry - day)
def shiftA (s:Nat):Int:=[-2000,-1000,-500,0,500,1000,2000].getD (s / 3) 0
def volA (s:Nat):Int:=[-2500,0,2500].getD (s % 3) 0
def pointP (price:Int) (s:Nat):Int:=price*(10000+shiftA s) / 10000
def pointV (vol:Int) (s:Nat):Int:=vol*(10000+volA s) / 10000
def unitAt (i:Ins) (u:Und) (day:Int) (s:Nat):Int×Int:=unitA i (pointP u.price s) (pointV u.vol s) day
def optA (r:Int×Int):Option Int:=if r.2=0 then some r.1 else none
def retA:Option Int -> Int×Int
 | some x=>(x,0)
 | none=>(0,4)
def addO (a b:Int):Option Int:=optA (addA a b)
def subO (a b:Int):Option Int:=optA (subA a b)
def mulO (a b:Int):Option Int:=optA (mulA a b)
def Led.ins (l:Led) (n:Int):Ins:=l.instrs.getD n.toNat ⟨0,0,0,0,0,false,0⟩
def Led.und (l:Led) (n:Int):Und:=l.unders.getD n.toNat ⟨⟨#[]⟩,0,0,0⟩
def Led.cur (l:Led) (n:Int):Cur:=l.curs.getD n.toNat ⟨0,0⟩
def Led.parents (l:Led):List Int:=l.accts.map (·.parent)
def Led.unit (l:Led) (instr:Int) (s:Nat):Int:=(unitAt (l.ins instr) (l.und (l.ins instr).under) l.day s).1
def gainO (l:Led) (instr qty:Int) (s:Nat) (frm:Int):Option Int:=mulO (qty*(l.ins instr).mult) (l.unit instr s - frm)
def Led.hit (l:Led) (acct:Nat) (under:Int) (instr who:Int):Bool:=decide ((l.ins instr).under=under)&&underL l.parents acct who.toNat
def lossPos (l:Led) (acct:Nat) (under:Int) (s:Nat):List Pos -> Int -> Option Int
 | [],x=>some x
 | p::r,x=>if l.hit acct under p.instr p.acct=true then (gainO l p.instr p.qty s (l.ins p.instr).mark).bind fun g=>(subO x g).bind fun y=>lossPos l acct under s r y else lossPos l acct under s r x
def lossOrd (l:Led) (acct:Nat) (under:Int) (s:Nat):List Ord -> Int -> Option Int
 | [],x=>some x
 | o::r,x=>if l.hit acct under o.instr o.acct=true then (gainO l o.instr o.qty s o.price).bind fun g=>(subO x (min g 0)).bind fun y=>lossOrd l acct under s r y else lossOrd l acct under s r x
def lossO (l:Led) (acct:Nat) (under:Int) (s:Nat):Option Int:=(lossPos l acct under s l.poss 0).bind fun x=>lossOrd l acct under s l.orders x
def worstO (l:Led) (acct:Nat) (under:Int):Nat -> Option Int
 | 0=>some 0
 | s+1=>(worstO l acct under s).bind fun w=>(lossO l acct under s).map fun x=>max w x
def baseO (c:Cur) (x mode:Int):Option Int:=optA (mdA x c.rate 1000000 mode)
def worthO (c:Cur) (x:Int):Option Int:=(baseO c x 0).bind fun y=>optA (mdA y (if y<0 then 10000+c.hair else 10000 - c.hair) 10000 0)
def needGo (l:Led) (acct:Nat):Nat -> List Und -> Int -> Option Int
 | _,[],x=>some x
 | n,u::r,x=>(worstO l acct n 21).bind fun w=>(baseO (l.cur u.cur) w 1).bind fun b=>(addO x b).bind fun y=>needGo l acct (n+1) r y
def needO (l:Led) (acct:Nat):Option Int:=needGo l acct 0 l.unders 0
def cashGo (n:Nat):List Acc -> Int -> Option Int
 | [],x=>some x
 | a::r,x=>(addO x (a.cash.getD n 0)).bind fun y=>cashGo n r y
def Led.under (l:Led) (acct:Nat):List Acc:=(belowL l.parents acct).map fun v=>l.accts.getD v ⟨-1,[],false,0⟩
def haveGo (l:Led) (acct:Nat):Nat -> List Cur -> Int -> Option Int
 | _,[],x=>some x
 | n,c::r,x=>(cashGo n (l.under acct) 0).bind fun k=>(worthO c k).bind fun b=>(addO x b).bind fun y=>haveGo l acct (n+1) r y
def haveO (l:Led) (acct:Nat):Option Int:=haveGo l acct 0 l.curs 0
def excessO (l:Led) (acct:Nat):Option Int:=(haveO l acct).bind fun h=>(needO l acct).bind fun n=>subO h n
def flagsGo (l:Led):Nat -> List Acc -> Option (List Acc)
 | _,[]=>some []
 | v,a::r=>if v<2 then (flagsGo l (v+1) r).map (a::·) else (excessO l v).bind fun x=>(flagsGo l (v+1) r).map ({ a with flag:=decide (x<0) }::·)
def flagsO (l:Led):Option Led:=(flagsGo l 0 l.accts).map fun as=>{ l with accts:=as }
theorem mdA_nat (a b c:Nat) (ha:a <= 4611686018427387904) (hb:b <= 4611686018427387904) (hc:c <= 4611686018427387904) (hc0:0<c):mdA a b c 0=ofA (a*b / c) false:=by
 have fa:fitsA (a:Int)=true:=fitsA_true.2 (by omega)
 have fb:fitsA (b:Int)=true:=fitsA_true.2 (by omega)
 have fc:fitsA (c:Int)=true:=fitsA_true.2 (by omega)
 have hn:negA a b c=false:=by
  have h1:¬ (a:Int)<0:=by omega
  have h2:¬ (b:Int)<0:=by omega
  have h3:¬ (c:Int)<0:=by omega
  simp[negA,h1,h2,h3]
 unfold mdA
 rw[if_neg (by simp[fa,fb,fc]),if_neg (by omega),hn]
 have hg:growsA 0 false=false:=by decide
 rw[hg,if_neg (by simp)]
 simp
theorem mdA_small (a b c:Int) (k:Int) (ha:0 <= a) (hb:0 <= b) (ha':a <= 4611686018427387904) (hb':b <= 4611686018427387904) (hc:0<c) (hc':c <= 4611686018427387904) (hk:a*b <= k*c) (hk':k <= 4611686018427387904) :
 mdA a b c 0=(a*b / c,0) /\ 0 <= a*b / c /\ a*b / c <= k:=by
 obtain⟨a,rfl⟩:=Int.eq_ofNat_of_zero_le ha
 obtain⟨b,rfl⟩:=Int.eq_ofNat_of_zero_le hb
 obtain⟨c,rfl⟩:=Int.eq_ofNat_of_zero_le (show 0 <= c by omega)
 have h1:((a:Int)*b / c) <= k:=by
  have:=Int.ediv_le_ediv hc hk
  rwa [Int.mul_ediv_cancel _ (by omega)] at this
 have h0:(0:Int) <= (a:Int)*b / c:=Int.ediv_nonneg (Int.mul_nonneg ha hb) (by omega)
 have e:((a:Int)*b / c)=((a*b / c:Nat):Int):=by simp
 refine⟨?_,h0,h1⟩
 rw[mdA_nat a b c (by omega) (by omega) (by omega) (by omega),ofA_ok (by omega),e]
 rfl
theorem addA_small {a b:Int} (ha:fitsA a=true) (hb:fitsA b=true) (h:fitsA (a+b)=true):addA a b=(a+b,0):=by unfold addA;rw[if_pos ⟨ha,hb,h⟩]
theorem mul_le {a b A B:Int} (ha:0 <= a) (hb:0 <= b) (h1:a <= A) (h2:b <= B):a*b <= A*B:=Int.mul_le_mul h1 h2 hb (by omega)
theorem valueA_ok (call:Bool) (strike price vol days:Int) (s0:0 <= strike) (s1:strike <= 1000000000000) (p0:0 <= price) (p1:price <= 1200000000000) (v0:0 <= vol) (v1:vol <= 62500) (d1:days <= 100000) :
 ∃ x,valueA call strike price vol days=(x,0) /\ 0 <= x /\ x <= 2000000000000000:=by
 obtain⟨g,hg⟩:∃ g,g=(if call then price - strike else strike - price):=⟨_,rfl⟩
 have g1:g <= 1200000000000:=by rw[hg];split <;> omega
 unfold valueA
 rw[<- hg,if_neg (by omega)]
 by_cases hd:days <= 0
 ·rw[if_pos hd]
  exact⟨_,rfl,by omega,by omega⟩
 ·rw[if_neg hd,if_neg (by omega)]
  have m1:=mul_le v0 (show 0 <= days by omega) v1 d1
  have m0:0 <= vol*days:=Int.mul_nonneg v0 (by omega)
  have e1:mulA vol days=(vol*days,0):=by
   rw[mulA_eq,if_pos ⟨fitsA_true.2 (by omega),fitsA_true.2 (by omega),fitsA_true.2 (by omega)⟩]
  rw[e1]
  have m2:=mul_le s0 m0 s1 (show vol*days <= 6250000000 by omega)
  obtain⟨e2,h0,h1⟩:=mdA_small strike (vol*days) 3650000 1800000000000000 s0 m0 (by omega) (by omega) (by omega) (by omega) (by omega) (by omega)
  rw[e2]
  obtain⟨t,ht⟩:∃ t,t=strike*(vol*days) / 3650000:=⟨_,rfl⟩
  rw[<- ht] at h0 h1 ⊢
  rw[if_neg (by simp),if_neg (by simp)]
  obtain⟨q,hq⟩:∃ q:Int,q=((price - strike).natAbs:Int) / 2:=⟨_,rfl⟩
  have hq0:0 <= q:=by omega
  show ∃ x,addA (max g 0) (max (t - ((price - strike).natAbs:Int) / 2) 0)=(x,0) /\ _
  rw[<- hq,addA_small (fitsA_true.2 (by omega)) (fitsA_true.2 (by omega)) (fitsA_true.2 (by omega))]
  exact⟨_,rfl,by omega,by omega⟩
theorem shiftA_bd (s:Nat):-2000 <= shiftA s /\ shiftA s <= 2000:=by
 unfold shiftA
 generalize s / 3=k
 match k with
 | 0|1|2|3|4|5|6=>decide
 | k+7=>simp
theorem volA_bd (s:Nat):-2500 <= volA s /\ volA s <= 2500:=by
 unfold volA
 generalize s % 3=k
 match k with
 | 0|1|2=>decide
 | k+3=>simp
theorem pointP_bd {price:Int} (h0:0 <= price) (h1:price <= 1000000000000) (s:Nat):mdA price (10000+shiftA s) 10000 0=(pointP price s,0) /\ 0 <= pointP price s /\ pointP price s <= 1200000000000:=by
 have hs:=shiftA_bd s
 have:=mul_le h0 (show 0 <= 10000+shiftA s by omega) h1 (show 10000+shiftA s <= 12000 by omega)
 exact mdA_small price (10000+shiftA s) 10000 1200000000000 h0 (by omega) (by omega) (by omega) (by omega) (by omega) (by omega) (by omega)
theorem pointV_bd {vol:Int} (h0:0 <= vol) (h1:vol <= 50000) (s:Nat):mdA vol (10000+volA s) 10000 0=(pointV vol s,0) /\ 0 <= pointV vol s /\ pointV vol s <= 62500:=by
 have hs:=volA_bd s
 have:=mul_le h0 (show 0 <= 10000+volA s by omega) h1 (show 10000+volA s <= 12500 by omega)
 exact mdA_small vol (10000+volA s) 10000 62500 h0 (by omega) (by omega) (by omega) (by omega) (by omega) (by omega) (by omega)
theorem unitA_ok {i:Ins} {n:Nat} (hi:i.Ok n) (price vol day:Int) (p0:0 <= price) (p1:price <= 1200000000000) (v0:0 <= vol) (v1:vol <= 62500) (d0:0 <= day) (d1:day <= 100000) :
 ∃ x,unitA i price vol day=(x,0) /\ 0 <= x /\ x <= 2000000000000000:=by
 obtain⟨_,_,_,_,_,_,hk⟩:=hi
 unfold unitA
 rw[if_neg (by omega),if_neg (by omega)]
 by_cases h3:i.kind=3
 ·have hk3:1 <= i.strike /\ i.strike <= 1000000000000 /\ 1 <= i.expiry /\ i.expiry <= 100000:=by
   rcases hk with h|h|h
   ·omega
   ·omega
   ·exact h.2
  rw[if_neg (by simp[h3]),if_neg (by omega)]
  exact valueA_ok _ _ _ _ _ (by omega) (by omega) p0 p1 v0 v1 (by omega)
 ·rw[if_pos h3]
  exact⟨_,rfl,p0,by omega⟩
theorem unitAt_ok {i:Ins} {u:Und} {n m:Nat} {day:Int} (hi:i.Ok n) (hu:u.Ok m) (d0:0 <= day) (d1:day <= 100000) (s:Nat) :
 ∃ x,unitAt i u day s=(x,0) /\ 0 <= x /\ x <= 2000000000000000:=by
 obtain⟨_,_,_,p0,p1,v0,v1⟩:=hu
 have hp:=pointP_bd (show 0 <= u.price by omega) p1 s
 have hv:=pointV_bd v0 v1 s
 exact unitA_ok hi _ _ _ hp.2.1 hp.2.2 hv.2.1 hv.2.2 d0 d1
theorem Led.Good.ins_ok {l:Led} (h:l.Good) {n:Int} (h0:0 <= n) (h1:n<l.instrs.length):(l.ins n).Ok l.unders.length:=by
 have hn:n.toNat<l.instrs.length:=by omega
 unfold Led.ins
 rw[List.getD_eq_getElem?_getD,List.getElem?_eq_getElem hn]
 exact h.things.instrs _ (List.getElem_mem _)
theorem Led.Good.und_ok {l:Led} (h:l.Good) {n:Int} (h0:0 <= n) (h1:n<l.unders.length):(l.und n).Ok l.curs.length:=by
 have hn:n.toNat<l.unders.length:=by omega
 unfold Led.und
 rw[List.getD_eq_getElem?_getD,List.getElem?_eq_getElem hn]
 exact h.things.unders n.toNat _ (List.getElem?_eq_getElem hn)
theorem Led.Good.unit_ok {l:Led} (h:l.Good) {n:Int} (h0:0 <= n) (h1:n<l.instrs.length) (s:Nat) :
 unitAt (l.ins n) (l.und (l.ins n).under) l.day s=(l.unit n s,0) /\ 0 <= l.unit n s /\ l.unit n s <= 2000000000000000:=by
 have hi:=h.ins_ok h0 h1
 obtain⟨x,hx,a,b⟩:=unitAt_ok hi (h.und_ok hi.1 hi.2.1) h.d0 h.d1 s
 unfold Led.unit
 rw[hx]
 exact⟨rfl,a,b⟩
theorem optA_some {r:Int×Int} {x:Int}:optA r=some x↔r=(x,0):=by
 obtain⟨a,e⟩:=r
 unfold optA
 by_cases h:e=0
 ·subst h;simp
 ·simp[h]
theorem addO_some {a b x:Int}:addO a b=some x↔x=a+b /\ fitsA a=true /\ fitsA b=true /\ fitsA (a+b)=true:=by
 unfold addO
 rw[optA_some]
 unfold addA
 by_cases h:fitsA a=true /\ fitsA b=true /\ fitsA (a+b)=true
 ·rw[if_pos h];constructor
  ·intro e;cases e;exact⟨rfl,h⟩
  ·rintro⟨rfl,_⟩;rfl
 ·rw[if_neg h];constructor
  ·intro e;cases e
  ·rintro⟨_,h2⟩;exact absurd h2 h
theorem subO_some {a b x:Int}:subO a b=some x↔x=a - b /\ fitsA a=true /\ fitsA b=true /\ fitsA (a - b)=true:=by
 unfold subO
 rw[optA_some]
 unfold subA
 by_cases h:fitsA a=true /\ fitsA b=true /\ fitsA (a - b)=true
 ·rw[if_pos h];constructor
  ·intro e;cases e;exact⟨rfl,h⟩
  ·rintro⟨rfl,_⟩;rfl
 ·rw[if_neg h];constructor
  ·intro e;cases e
  ·rintro⟨_,h2⟩;exact absurd h2 h
theorem mulO_some {a b x:Int}:mulO a b=some x↔x=a*b /\ fitsA a=true /\ fitsA b=true /\ fitsA (a*b)=true:=by
 unfold mulO
 rw[optA_some,mulA_eq]
 by_cases h:fitsA a=true /\ fitsA b=true /\ fitsA (a*b)=true
 ·rw[if_pos h];constructor
  ·intro e;cases e;exact⟨rfl,h⟩
  ·rintro⟨rfl,_⟩;rfl
 ·rw[if_neg h];constructor
  ·intro e;cases e
  ·rintro⟨_,h2⟩;exact absurd h2 h
theorem ediv_neg_nat (n c:Nat) (hc:0<c):(-(n:Int)) / (c:Int)=-((n / c+if n % c≠0 then 1 else 0:Nat):Int):=by
 have h:=Nat.div_add_mod n c
 have hm:=Nat.mod_lt n hc
 obtain⟨q,hq⟩:∃ q,q=n / c:=⟨_,rfl⟩
 obtain⟨r,hr⟩:∃ r,r=n % c:=⟨_,rfl⟩
 rw[<- hq,<- hr] at h
 rw[<- hr] at hm
 rw[<- hq,<- hr]
 by_cases h0:r=0
 ·rw[if_neg (by simp[h0])]
  have e:(-(n:Int))=(c:Int)*(-(q:Int)):=by rw[<- h,h0,Int.mul_neg];simp
  rw[e,Int.mul_ediv_cancel_left _ (by omega)];simp
 ·rw[if_pos h0]
  have e:(-(n:Int))=(c - r:Int)+(c:Int)*(-(q+1:Int)):=by
   have:(n:Int)=(c:Int)*q+r:=by rw[<- h];simp
   rw[this,Int.mul_neg,Int.mul_add];omega
  rw[e,Int.add_mul_ediv_left _ _ (by omega),Int.ediv_eq_zero_of_lt (by omega) (by omega)]
  omega
theorem mdA_floor (a b c:Int) (ha:fitsA a=true) (hb:0 <= b) (hb':fitsA b=true) (hc:0<c) (hc':fitsA c=true) :
 mdA a b c 0=if fitsA (a*b / c)=true then (a*b / c,0) else (0,4):=by
 obtain⟨b,rfl⟩:=Int.eq_ofNat_of_zero_le hb
 obtain⟨c,rfl⟩:=Int.eq_ofNat_of_zero_le (show 0 <= c by omega)
 have hc0:0<c:=by omega
 unfold mdA
 rw[if_neg (by simp[ha,hb',hc']),if_neg (by omega)]
 have h2:¬ ((b:Int)<0):=by omega
 have h3:¬ ((c:Int)<0):=by omega
 by_cases h:a<0
 ·obtain⟨n,rfl⟩:∃ n:Nat,a=-(n:Int):=⟨a.natAbs,by omega⟩
  have hn:negA (-(n:Int)) b c=true:=by unfold negA;rw[decide_eq_true h,decide_eq_false h2,decide_eq_false h3];rfl
  rw[hn,show growsA 0 true=true from by decide]
  have e:-(n:Int)*(b:Int)=-((n*b:Nat):Int):=by rw[Int.neg_mul];simp
  rw[e,ediv_neg_nat _ _ hc0]
  simp only[Int.natAbs_neg,Int.natAbs_natCast,and_true]
  obtain⟨q,hq⟩:∃ q:Nat,q=n*b / c+if n*b % c≠0 then 1 else 0:=⟨_,rfl⟩
  rw[<- hq]
  by_cases hf:4611686018427387904<q
  ·rw[ofA_over hf,if_neg (by rw[Bool.not_eq_true,fitsA_false];omega)]
  ·rw[ofA_ok (by omega),if_pos (fitsA_true.2 (by omega))];rfl
 ·obtain⟨n,rfl⟩:=Int.eq_ofNat_of_zero_le (show 0 <= a by omega)
  have hn:negA (n:Int) b c=false:=by simp[negA,h,h2,h3]
  rw[hn,show growsA 0 false=false from by decide]
  have e:(n:Int)*(b:Int) / (c:Int)=((n*b / c:Nat):Int):=by simp
  rw[e]
  simp only[Int.natAbs_natCast,Bool.false_eq_true,and_false,if_false,Nat.add_zero]
  obtain⟨q,hq⟩:∃ q:Nat,q=n*b / c:=⟨_,rfl⟩
  rw[<- hq]
  by_cases hf:4611686018427387904<q
  ·rw[ofA_over hf,if_neg (by rw[Bool.not_eq_true,fitsA_false];omega)]
  ·rw[ofA_ok (by omega),if_pos (fitsA_true.2 (by omega))];rfl
theorem mdA_ceil (a b c:Int) (ha:fitsA a=true) (hb:0 <= b) (hb':fitsA b=true) (hc:0<c) (hc':fitsA c=true) :
 mdA a b c 1=if fitsA (-(-(a*b) / c))=true then (-(-(a*b) / c),0) else (0,4):=by
 obtain⟨b,rfl⟩:=Int.eq_ofNat_of_zero_le hb
 obtain⟨c,rfl⟩:=Int.eq_ofNat_of_zero_le (show 0 <= c by omega)
 have hc0:0<c:=by omega
 unfold mdA
 rw[if_neg (by simp[ha,hb',hc']),if_neg (by omega)]
 have h2:¬ ((b:Int)<0):=by omega
 have h3:¬ ((c:Int)<0):=by omega
 by_cases h:a<0
 ·obtain⟨n,rfl⟩:∃ n:Nat,a=-(n:Int):=⟨a.natAbs,by omega⟩
  have hn:negA (-(n:Int)) b c=true:=by unfold negA;rw[decide_eq_true h,decide_eq_false h2,decide_eq_false h3];rfl
  rw[hn,show growsA 1 true=false from by decide]
  have e:-(-(n:Int)*(b:Int))=((n*b:Nat):Int):=by rw[Int.neg_mul];simp
  have e2:-(-(n:Int)*(b:Int)) / (c:Int)=((n*b / c:Nat):Int):=by rw[e];simp
  rw[e2]
  simp only[Int.natAbs_neg,Int.natAbs_natCast,Bool.false_eq_true,and_false,if_false,Nat.add_zero]
  obtain⟨q,hq⟩:∃ q:Nat,q=n*b / c:=⟨_,rfl⟩
  rw[<- hq]
  by_cases hf:4611686018427387904<q
  ·rw[ofA_over hf,if_neg (by rw[Bool.not_eq_true,fitsA_false];omega)]
  ·rw[ofA_ok (by omega),if_pos (fitsA_true.2 (by omega))];rfl
 ·obtain⟨n,rfl⟩:=Int.eq_ofNat_of_zero_le (show 0 <= a by omega)
  have hn:negA (n:Int) b c=false:=by simp[negA,h,h2,h3]
  rw[hn,show growsA 1 false=true from by decide]
  have e:-((n:Int)*(b:Int))=-((n*b:Nat):Int):=by simp
  rw[e,ediv_neg_nat _ _ hc0]
  simp only[Int.natAbs_natCast,and_true,Int.neg_neg]
  obtain⟨q,hq⟩:∃ q:Nat,q=n*b / c+if n*b % c≠0 then 1 else 0:=⟨_,rfl⟩
  rw[<- hq]
  by_cases hf:4611686018427387904<q
  ·rw[ofA_over hf,if_neg (by rw[Bool.not_eq_true,fitsA_false];omega)]
  ·rw[ofA_ok (by omega),if_pos (fitsA_true.2 (by omega))];rfl
theorem mdA_bad (a b c mode:Int) (h:¬ (fitsA a=true /\ fitsA b=true /\ fitsA c=true)):mdA a b c mode=(0,4):=by unfold mdA;rw[if_pos h]
theorem baseO_down {c:Cur} {n:Nat} (hc:c.Ok n) {x y:Int}:baseO c x 0=some y↔fitsA x=true /\ y=x*c.rate / 1000000 /\ fitsA y=true:=by
 obtain⟨r0,r1,_,_,_⟩:=hc
 unfold baseO
 rw[optA_some]
 by_cases hx:fitsA x=true
 ·rw[mdA_floor x c.rate 1000000 hx (by omega) (fitsA_true.2 (by omega)) (by omega) (fitsA_true.2 (by omega))]
  by_cases h:fitsA (x*c.rate / 1000000)=true
  ·rw[if_pos h];constructor
   ·intro e;cases e;exact⟨hx,rfl,h⟩
   ·rintro⟨_,rfl,_⟩;rfl
  ·rw[if_neg h];constructor
   ·intro e;cases e
   ·rintro⟨_,rfl,h2⟩;exact absurd h2 h
 ·rw[mdA_bad _ _ _ _ (fun h=>hx h.1)]
  constructor
  ·intro e;cases e
  ·rintro⟨h,_⟩;exact absurd h hx
theorem baseO_up {c:Cur} {n:Nat} (hc:c.Ok n) {x y:Int}:baseO c x 1=some y↔fitsA x=true /\ y=-(-(x*c.rate) / 1000000) /\ fitsA y=true:=by
 obtain⟨r0,r1,_,_,_⟩:=hc
 unfold baseO
 rw[optA_some]
 by_cases hx:fitsA x=true
 ·rw[mdA_ceil x c.rate 1000000 hx (by omega) (fitsA_true.2 (by omega)) (by omega) (fitsA_true.2 (by omega))]
  by_cases h:fitsA (-(-(x*c.rate) / 1000000))=true
  ·rw[if_pos h];constructor
   ·intro e;cases e;exact⟨hx,rfl,h⟩
   ·rintro⟨_,rfl,_⟩;rfl
  ·rw[if_neg h];constructor
   ·intro e;cases e
   ·rintro⟨_,rfl,h2⟩;exact absurd h2 h
 ·rw[mdA_bad _ _ _ _ (fun h=>hx h.1)]
  constructor
  ·intro e;cases e
  ·rintro⟨h,_⟩;exact absurd h hx
def cutA (c:Cur) (y:Int):Int:=y*(if y<0 then 10000+c.hair else 10000 - c.hair) / 10000
theorem worthO_some {c:Cur} {n:Nat} (hc:c.Ok n) {x z:Int}:worthO c x=some z↔fitsA x=true /\ fitsA (x*c.rate / 1000000)=true /\ z=cutA c (x*c.rate / 1000000) /\ fitsA z=true:=by
 have hb:=fun y=>baseO_down hc (x:=x) (y:=y)
 obtain⟨r0,r1,h0,h1,_⟩:=hc
 unfold worthO
 rw[Option.bind_eq_some_iff]
 obtain⟨k,hk⟩:∃ k,k=x*c.rate / 1000000:=⟨_,rfl⟩
 rw[<- hk] at hb ⊢
 have hm:∀ y,fitsA y=true -> (mdA y (if y<0 then 10000+c.hair else 10000 - c.hair) 10000 0=(z,0)↔z=cutA c y /\ fitsA z=true):=by
  intro y hy
  have hw:0 <= (if y<0 then 10000+c.hair else 10000 - c.hair) /\ (if y<0 then 10000+c.hair else 10000 - c.hair) <= 20000:=by split <;> omega
  rw[mdA_floor y _ 10000 hy hw.1 (fitsA_true.2 (by omega)) (by omega) (fitsA_true.2 (by omega))]
  show (if fitsA (cutA c y)=true then (cutA c y,(0:Int)) else (0,4))=(z,0)↔_
  by_cases h:fitsA (cutA c y)=true
  ·rw[if_pos h];constructor
   ·intro e;cases e;exact⟨rfl,h⟩
   ·rintro⟨rfl,_⟩;rfl
  ·rw[if_neg h];constructor
   ·intro e;cases e
   ·rintro⟨rfl,h2⟩;exact absurd h2 h
 constructor
 ·rintro⟨y,hy,hz⟩
  obtain⟨a,b,d⟩:=(hb y).1 hy
  rw[optA_some] at hz
  have:=(hm y d).1 hz
  subst b
  exact⟨a,d,this.1,this.2⟩
 ·rintro⟨a,b,d,f⟩
  exact⟨k,(hb k).2 ⟨a,rfl,b⟩,optA_some.2 ((hm k b).2 ⟨d,f⟩)⟩
theorem ediv_mono {a b c:Int} (hc:0<c) (h:a <= b):a / c <= b / c:=Int.ediv_le_ediv hc h
theorem cutA_mono {c:Cur} {n:Nat} (hc:c.Ok n) {x y:Int} (h:x <= y):cutA c x <= cutA c y:=by
 obtain⟨_,_,h0,h1,_⟩:=hc
 unfold cutA
 apply ediv_mono (by omega)
 by_cases hx:x<0
 ·by_cases hy:y<0
  ·rw[if_pos hx,if_pos hy];exact Int.mul_le_mul_of_nonneg_right h (by omega)
  ·rw[if_pos hx,if_neg hy]
   have a1:x*(10000+c.hair) <= 0:=Int.mul_nonpos_of_nonpos_of_nonneg (by omega) (by omega)
   have a2:0 <= y*(10000 - c.hair):=Int.mul_nonneg (by omega) (by omega)
   omega
 ·rw[if_neg hx,if_neg (by omega)];exact Int.mul_le_mul_of_nonneg_right h (by omega)
theorem worthO_mono {c:Cur} {n:Nat} (hc:c.Ok n) {x y a b:Int} (h:x <= y) (ha:worthO c x=some a) (hb:worthO c y=some b):a <= b:=by
 obtain⟨_,_,rfl,_⟩:=(worthO_some hc).1 ha
 obtain⟨_,_,rfl,_⟩:=(worthO_some hc).1 hb
 exact cutA_mono hc (ediv_mono (by omega) (Int.mul_le_mul_of_nonneg_right h (by have:=hc.1;omega)))
theorem worthO_zero {c:Cur} {n:Nat} (hc:c.Ok n):worthO c 0=some 0:=by
 rw[worthO_some hc]
 refine⟨by decide,by simp[fitsA],by simp[cutA],by decide⟩
theorem baseO_zero {c:Cur} {n:Nat} (hc:c.Ok n):baseO c 0 1=some 0:=by
 rw[baseO_up hc]
 refine⟨by decide,by simp,by decide⟩
theorem Rises.pair {α:Type} {lt:α -> α -> Prop} (tr:∀ a b c,lt a b -> lt b c -> lt a c):∀ {l:List α},Rises lt l -> l.Pairwise lt
 | [],_=>List.Pairwise.nil
 | a::r,h=>by
   have hr:Rises lt r:=fun i x y hx hy=>h (i+1) x y (by simpa using hx) (by simpa using hy)
   have ih:=Rises.pair tr hr
   refine List.Pairwise.cons ?_ ih
   intro b hb
   cases r with
   | nil=>simp at hb
   | cons c t =>
     have h0:lt a c:=h 0 a c rfl rfl
     rcases List.mem_cons.1 hb with rfl|hb
     ·exact h0
     ·exact tr _ _ _ h0 ((List.pairwise_cons.1 ih).1 b hb)
theorem rises_of_pair {α:Type} {lt:α -> α -> Prop} {l:List α} (h:l.Pairwise lt):Rises lt l:=by
 intro i a b ha hb
 obtain⟨h1,rfl⟩:=List.getElem?_eq_some_iff.1 ha
 obtain⟨h2,rfl⟩:=List.getElem?_eq_some_iff.1 hb
 exact List.pairwise_iff_getElem.1 h i (i+1) h1 h2 (by omega)
theorem Rises.sub {α:Type} {lt:α -> α -> Prop} (tr:∀ a b c,lt a b -> lt b c -> lt a c) {l m:List α} (h:Rises lt l) (hs:m.Sublist l):Rises lt m :=
 rises_of_pair ((h.pair tr).sublist hs)
theorem Pos.Lt.trans (a b c:Pos) (h:Pos.Lt a b) (k:Pos.Lt b c):Pos.Lt a c:=by unfold Pos.Lt at *;omega
theorem Ord.Lt.trans (a b c:Ord) (h:Ord.Lt a b) (k:Ord.Lt b c):Ord.Lt a c:=by unfold Ord.Lt at *;omega
theorem PossOk.sub {ps qs:List Pos} {n m:Nat} (h:PossOk ps n m) (hs:qs.Sublist ps):PossOk qs n m :=
 ⟨Nat.le_trans hs.length_le h.len,fun p hp=>h.all p (hs.subset hp),h.rise.sub Pos.Lt.trans hs⟩
theorem OrdersOk.sub {ps qs:List Ord} {n m:Nat} (h:OrdersOk ps n m) (hs:qs.Sublist ps):OrdersOk qs n m :=
 ⟨Nat.le_trans hs.length_le h.len,fun p hp=>h.all p (hs.subset hp),h.rise.sub Ord.Lt.trans hs⟩
theorem Led.Good.recash {l:Led} (h:l.Good) {as:List Acc} (hp:as.map (·.parent)=l.accts.map (·.parent)) (hl:as.map (·.last)=l.accts.map (·.last))
 (ha:∀ (v:Nat) a,as[v]?=some a -> a.Ok v l.curs.length):({ l with accts:=as }:Led).Good:=by
 have hn:as.length=l.accts.length:=by have:=congrArg List.length hp;simpa using this
 refine⟨h.d0,h.d1,⟨h.things.c0,h.things.c1,h.things.u1,h.things.i1,h.things.curs,h.things.unders,h.things.names,h.things.instrs⟩,⟨?_,ha⟩,?_,?_,?_,?_⟩
 ·show TreeOk (as.map (·.parent))
  rw[hp];exact h.accounts.tree
 ·show PossOk l.poss as.length l.instrs.length
  rw[hn];exact h.poss
 ·show OrdersOk l.orders as.length l.instrs.length
  rw[hn];exact h.orders
 ·show LocsOk l.avail l.locs as.length l.instrs.length
  rw[hn];exact h.locs
 ·intro o hm a hao
  have h1:(as.map (·.last))[o.acct.toNat]?=some a.last:=by rw[List.getElem?_map,show as[o.acct.toNat]?=some a from hao];rfl
  rw[hl,List.getElem?_map] at h1
  cases h2:l.accts[o.acct.toNat]? with
  | none=>rw[h2] at h1;simp at h1
  | some b=>rw[h2] at h1;simp at h1;rw[<- h1];exact h.ids o hm b h2
theorem Led.Good.cur_ok {l:Led} (h:l.Good) {n:Nat} (h1:n<l.curs.length):(l.cur n).Ok n:=by
 unfold Led.cur
 rw[List.getD_eq_getElem?_getD,List.getElem?_eq_getElem (by simpa using h1)]
 have:=h.things.curs n _ (List.getElem?_eq_getElem h1)
 simpa using this
theorem Led.Good.und_cur {l:Led} (h:l.Good) {u:Und} (hu:u∈l.unders):∃ n:Nat,u.cur=n /\ n<l.curs.length /\ (l.cur u.cur).Ok n:=by
 obtain⟨k,hk,rfl⟩:=List.mem_iff_getElem.1 hu
 obtain⟨_,a,b,_⟩:=h.things.unders k _ (List.getElem?_eq_getElem hk)
 refine⟨l.unders[k].cur.toNat,by omega,by omega,?_⟩
 have:=h.cur_ok (n:=l.unders[k].cur.toNat) (by omega)
 rwa [show ((l.unders[k].cur.toNat:Nat):Int)=l.unders[k].cur by omega] at this
theorem addO_zero:addO 0 0=some 0:=by rw[addO_some];decide
theorem haveO_same {l m:Led} (hc:l.curs=m.curs) (ha:l.accts=m.accts) (a:Nat):haveO l a=haveO m a:=by
 have hu:l.under a=m.under a:=by unfold Led.under Led.parents;rw[ha]
 have:∀ (cs:List Cur) (n:Nat) (x:Int),haveGo l a n cs x=haveGo m a n cs x:=by
  intro cs
  induction cs with
  | nil=>intro n x;rfl
  | cons c r ih =>
    intro n x
    unfold haveGo
    rw[hu]
    simp only[ih]
 unfold haveO
 rw[hc];exact this _ _ _
theorem cashGo_zero (n:Nat):∀ (as:List Acc),(∀ a∈as,a.cash.getD n 0=0) -> cashGo n as 0=some 0
 | [],_=>rfl
 | a::r,h=>by
   unfold cashGo
   rw[h a (by simp),addO_zero]
   exact cashGo_zero n r (fun b hb=>h b (by simp[hb]))
theorem flagsGo_some {l:Led}:∀ (as:List Acc) (v:Nat) (bs:List Acc),flagsGo l v as=some bs -> bs.length=as.length /\
 ∀ (k:Nat) a b,as[k]?=some a -> bs[k]?=some b -> b.parent=a.parent /\ b.cash=a.cash /\ b.last=a.last /\ (v+k<2 -> b=a)
 | [],_,bs,h=>by cases h;exact⟨rfl,by simp⟩
 | a::r,v,bs,h=>by
   unfold flagsGo at h
   by_cases hv:v<2
   ·rw[if_pos hv,Option.map_eq_some_iff] at h
    obtain⟨cs,h1,rfl⟩:=h
    obtain⟨e,ih⟩:=flagsGo_some r (v+1) cs h1
    refine⟨by simp[e],fun k x y hx hy=>?_⟩
    cases k with
    | zero=>cases hx;cases hy;exact⟨rfl,rfl,rfl,fun _=>rfl⟩
    | succ k=>obtain⟨p,q,s,t⟩:=ih k x y hx hy;exact⟨p,q,s,fun hk=>t (by omega)⟩
   ·rw[if_neg hv,Option.bind_eq_some_iff] at h
    obtain⟨x0,_,h⟩:=h
    rw[Option.map_eq_some_iff] at h
    obtain⟨cs,h1,rfl⟩:=h
    obtain⟨e,ih⟩:=flagsGo_some r (v+1) cs h1
    refine⟨by simp[e],fun k x y hx hy=>?_⟩
    cases k with
    | zero=>cases hx;cases hy;exact⟨rfl,rfl,rfl,fun hk=>by omega⟩
    | succ k=>obtain⟨p,q,s,t⟩:=ih k x y hx hy;exact⟨p,q,s,fun hk=>t (by omega)⟩
theorem map_same {α β:Type} (f:α -> β) {as bs:List α} (hn:bs.length=as.length) (h:∀ (k:Nat) a b,as[k]?=some a -> bs[k]?=some b -> f b=f a):bs.map f=as.map f:=by
 apply List.ext_getElem?
 intro k
 rw[List.getElem?_map,List.getElem?_map]
 by_cases hk:k<as.length
 ·rw[List.getElem?_eq_getElem hk,List.getElem?_eq_getElem (by omega)]
  exact congrArg some (h k _ _ (List.getElem?_eq_getElem hk) (List.getElem?_eq_getElem (by omega)))
 ·rw[List.getElem?_eq_none (by omega),List.getElem?_eq_none (by omega)]
theorem flagsO_good {l m:Led} (h:l.Good) (hm:flagsO l=some m):m.Good:=by
 unfold flagsO at hm
 rw[Option.map_eq_some_iff] at hm
 obtain⟨bs,h1,rfl⟩:=hm
 obtain⟨hn,hk⟩:=flagsGo_some _ _ _ h1
 refine h.recash (map_same _ hn fun k a b ha hb=>(hk k a b ha hb).1) (map_same _ hn fun k a b ha hb=>(hk k a b ha hb).2.2.1) (fun v b hb=>?_)
 have hv:v<l.accts.length:=by have:=(List.getElem?_eq_some_iff.1 hb).1;omega
 have ha:=List.getElem?_eq_getElem hv
 obtain⟨p,q,s,t⟩:=hk v _ b ha hb
 obtain⟨a1,a2,a3,a4,a5⟩:=h.accounts.accts v _ ha
 refine⟨by rw[q];exact a1,by rw[s];exact a2,by rw[s];exact a3,fun hlt=>?_,by rw[q];exact a5⟩
 rw[t (by omega)];exact a4 hlt
theorem flagsO_day {l m:Led} (hm:flagsO l=some m):m.day=l.day /\ m.curs=l.curs /\ m.unders=l.unders /\ m.instrs=l.instrs /\ m.poss=l.poss /\ m.orders=l.orders /\ m.avail=l.avail /\ m.locs=l.locs /\ flagsGo l 0 l.accts=some m.accts:=by
 unfold flagsO at hm
 rw[Option.map_eq_some_iff] at hm
 obtain⟨bs,h1,rfl⟩:=hm
 exact⟨rfl,rfl,rfl,rfl,rfl,rfl,rfl,rfl,h1⟩
structure Looks (l m:Led):Prop where
 instrs:l.instrs=m.instrs
 unders:l.unders=m.unders
 day:l.day=m.day
 parents:l.parents=m.parents
theorem Looks.hit {l m:Led} (h:Looks l m) (a:Nat) (u i w:Int):l.hit a u i w=m.hit a u i w:=by
 unfold Led.hit Led.ins;rw[h.instrs,h.parents]
theorem Looks.gain {l m:Led} (h:Looks l m) (i q:Int) (s:Nat) (f:Int):gainO l i q s f=gainO m i q s f:=by
 unfold gainO Led.unit Led.und Led.ins;rw[h.instrs,h.unders,h.day]
theorem Looks.ins {l m:Led} (h:Looks l m) (i:Int):l.ins i=m.ins i:=by unfold Led.ins;rw[h.instrs]
theorem Looks.pos {l m:Led} (h:Looks l m) (a:Nat) (u:Int) (s:Nat):∀ (ps:List Pos) (x:Int),lossPos l a u s ps x=lossPos m a u s ps x
 | [],x=>rfl
 | p::r,x=>by
   unfold lossPos
   rw[h.hit,h.gain,h.ins]
   simp only[h.pos a u s r]
theorem Looks.ord {l m:Led} (h:Looks l m) (a:Nat) (u:Int) (s:Nat):∀ (ps:List Ord) (x:Int),lossOrd l a u s ps x=lossOrd m a u s ps x
 | [],x=>rfl
 | p::r,x=>by
   unfold lossOrd
   rw[h.hit,h.gain]
   simp only[h.ord a u s r]
theorem cashGo_more (n:Nat):∀ {as bs:List Acc} {x x' y y':Int},as.length=bs.length -> (∀ (k:Nat) a b,as[k]?=some a -> bs[k]?=some b -> a.cash.getD n 0 <= b.cash.getD n 0) -> x <= x' ->
 cashGo n as x=some y -> cashGo n bs x'=some y' -> y <= y'
 | [],[],x,x',y,y',_,_,hle,h,h'=>by cases h;cases h';exact hle
 | [],_::_,_,_,_,_,hn,_,_,_,_=>by simp at hn
 | _::_,[],_,_,_,_,hn,_,_,_,_=>by simp at hn
 | a::r,b::t,x,x',y,y',hn,hk,hle,h,h'=>by
   unfold cashGo at h h'
   rw[Option.bind_eq_some_iff] at h h'
   obtain⟨z,hz,h⟩:=h
   obtain⟨z',hz',h'⟩:=h'
   obtain⟨rfl,_⟩:=addO_some.1 hz
   obtain⟨rfl,_⟩:=addO_some.1 hz'
   have:=hk 0 a b rfl rfl
   exact cashGo_more n (by simpa using hn) (fun k p q hp hq=>hk (k+1) p q (by simpa using hp) (by simpa using hq)) (by omega) h h'
theorem haveGo_more {l m:Led} {a:Nat} (hn:(l.under a).length=(m.under a).length) (hk:∀ (n k:Nat) p q,(l.under a)[k]?=some p -> (m.under a)[k]?=some q -> p.cash.getD n 0 <= q.cash.getD n 0) :
 ∀ {cs:List Cur} {n:Nat} {x x' y y':Int},(∀ (k:Nat) c,cs[k]?=some c -> c.Ok (n+k)) -> x <= x' -> haveGo l a n cs x=some y -> haveGo m a n cs x'=some y' -> y <= y'
 | [],n,x,x',y,y',_,hle,h,h'=>by cases h;cases h';exact hle
 | c::r,n,x,x',y,y',hc,hle,h,h'=>by
   unfold haveGo at h h'
   rw[Option.bind_eq_some_iff] at h h'
   obtain⟨k,hk1,h⟩:=h
   obtain⟨k',hk1',h'⟩:=h'
   rw[Option.bind_eq_some_iff] at h h'
   obtain⟨b,hb,h⟩:=h
   obtain⟨b',hb',h'⟩:=h'
   rw[Option.bind_eq_some_iff] at h h'
   obtain⟨z,hz,h⟩:=h
   obtain⟨z',hz',h'⟩:=h'
   obtain⟨rfl,_⟩:=addO_some.1 hz
   obtain⟨rfl,_⟩:=addO_some.1 hz'
   have h1:=cashGo_more n hn (fun k p q hp hq=>hk n k p q hp hq) (Int.le_refl 0) hk1 hk1'
   have h2:=worthO_mono (hc 0 c rfl) h1 hb hb'
   exact haveGo_more hn hk (fun k c' hk=>by have:=hc (k+1) c' (by simpa using hk);rwa [Nat.add_assoc,Nat.add_comm 1 k]) (by omega) h h'
theorem haveO_more {l:Led} (h:l.Good) {as:List Acc} (hp:as.map (·.parent)=l.accts.map (·.parent)) (hk:∀ (k n:Nat) p q,l.accts[k]?=some p -> as[k]?=some q -> p.cash.getD n 0 <= q.cash.getD n 0) {a:Nat} {y y':Int}
 (hy:haveO l a=some y) (hy':haveO { l with accts:=as } a=some y'):y <= y':=by
 have hn:as.length=l.accts.length:=by have:=congrArg List.length hp;simpa using this
 have hpar:({ l with accts:=as }:Led).parents=l.parents:=hp
 refine haveGo_more (l:=l) (m:={ l with accts:=as }) (a:=a) ?_ ?_ (fun k c hk=>by simpa using h.things.curs k c hk) (Int.le_refl 0) hy hy'
 ·unfold Led.under;rw[hpar];simp
 ·intro n k p q
  unfold Led.under
  rw[hpar,List.getElem?_map,List.getElem?_map]
  intro h1 h2
  obtain⟨v,hv,rfl⟩:=Option.map_eq_some_iff.1 h1
  rw[hv] at h2
  cases h2
  have hvl:v<l.accts.length:=by
   have:=(mem_belowL.1 (List.mem_of_getElem? hv)).1
   simpa [Led.parents] using this
  have e1:l.accts.getD v ⟨-1,[],false,0⟩=l.accts[v]:=by simp[List.getD_eq_getElem?_getD,List.getElem?_eq_getElem hvl]
  have e2:as.getD v ⟨-1,[],false,0⟩=as[v]'(by omega):=by simp[List.getD_eq_getElem?_getD,List.getElem?_eq_getElem (show v<as.length by omega)]
  show (l.accts.getD v ⟨-1,[],false,0⟩).cash.getD n 0 <= (as.getD v ⟨-1,[],false,0⟩).cash.getD n 0
  rw[e1,e2]
  exact hk v n _ _ (List.getElem?_eq_getElem hvl) (List.getElem?_eq_getElem _)
def lossT (G:Nat -> Int):Nat -> Int
 | 0=>0
 | k+1=>lossT G k+max (-(G k)) 0
def WAt (G:Nat -> Int) (all:Bool) (n:Nat) (x:Int) (over:Bool):Prop:=over=true \/ (-4611686018427387904 <= x /\ x <= 4611686018427387904 /\ x <= lossT G n /\ (all=true -> x=lossT G n))
theorem WAt.skip {G:Nat -> Int} {all:Bool} {n:Nat} {x:Int} {over:Bool} (h:WAt G all n x over) (hg:all=true -> 0 <= G n):WAt G all (n+1) x over:=by
 rcases h with h|⟨h1,h2,h3,h4⟩
 ·exact Or.inl h
 ·refine Or.inr ⟨h1,h2,?_,fun ha=>?_⟩
  ·show x <= lossT G n+max (-(G n)) 0;omega
  ·show x=lossT G n+max (-(G n)) 0
   have:=hg ha;have:=h4 ha;omega
theorem WAt.lose {G:Nat -> Int} {all:Bool} {n:Nat} {x y:Int} {over over':Bool} (h:WAt G all n x over) (hf:fitsA (G n)=true) (hg:G n<0)
 (hy:y=x+-(G n) \/ (9223372036854775807<x+-(G n) /\ y=x+-(G n) - 18446744073709551616) \/ over=true) (ho:over'=(over||decide (4611686018427387904<y)||decide (y<0))):WAt G all (n+1) y over':=by
 have f:=fitsA_true.1 hf
 rcases h with h|⟨h1,h2,h3,h4⟩
 ·exact Or.inl (by rw[ho,h];rfl)
 by_cases hov:over=true
 ·exact Or.inl (by rw[ho,hov];rfl)
 by_cases hb:4611686018427387904<y \/ y<0
 ·refine Or.inl ?_
  rw[ho]
  rcases hb with hb|hb
  ·simp[hb]
  ·simp[hb]
 ·refine Or.inr ⟨by omega,by omega,?_,fun ha=>?_⟩
  ·show y <= lossT G n+max (-(G n)) 0
   rcases hy with hy|hy|hy
   ·omega
   ·omega
   ·exact absurd hy hov
  ·show y=lossT G n+max (-(G n)) 0
   have:=h4 ha
   rcases hy with hy|hy|hy
   ·omega
   ·omega
   ·exact absurd hy hov
end Go.Bw
