/- Joined: AdmP, AdmQ, AdmR, AdmS, AdmT, AdmU, AdmV, AdmW, LocP, LocD. -/
import Derived.Test.YtfknkmlocbojhaaGreatDoorGb
set_option linter.unusedVariables false
set_option linter.unusedSimpArgs false
namespace Go.Bw
open Classical
structure wu where
 led:aH
 num:Int
 err:Int
def wu.no (e:Int):wu:=⟨⟨0,[],[],[],[],[],[],[],[]⟩,0,e⟩
def aH.acc (l:aH) (n:Int):Acc:=l.ai.getD n.toNat ⟨-1,[],false,0⟩
def Ins.noMark (i:Ins):Ins:={ i with mark:=0 }
def vK (i:Ins) (u:eU) (day:Int):Int×Int :=
 if (0<=u.price/\u.price<=1000000000000)/\(0<=u.dL/\u.dL<=50000) then oK i u.price u.dL day else (0,1)
theorem iF {e:Int} (h:(wu.no e).err=0):e=0:=h
theorem getD_at {α:Type} (l:List α) (n:Nat) (d:α) (h:n<l.length):l[n]?=some (l.getD n d):=by
 rw[List.getD_eq_getElem?_getD,List.getElem?_eq_getElem h];rfl
theorem Ff {α:Type} {l:List α} {k:Nat} {x:α} {P:Nat->α->Prop} (h:∀ n u,l[n]?=some u->P n u) (hx:P k x):∀ n u,(l.set k x)[n]?=some u->P n u:=by
 intro n u hn;rw[List.getElem?_set] at hn;by_cases e:k=n
 ·subst e;rw[if_pos rfl] at hn;by_cases e2:k<l.length
  ·rw[if_pos e2] at hn;cases hn;exact hx
  rw[if_neg e2] at hn;cases hn
 rw[if_neg e] at hn;exact h n u hn
theorem rH {α β:Type} {f:α->β} {l l':List α} (h:l.map f=l'.map f) {n:Nat} {u:α} (hn:l[n]?=some u):∃ u',l'[n]?=some u'/\f u'=f u:=by
 have e:(l.map f)[n]?=some (f u):=by rw[List.getElem?_map,hn];rfl
 rw[h,List.getElem?_map] at e
 cases hl:l'[n]? with
 | none=>rw[hl] at e;cases e
 | some u'=>rw[hl] at e;exact⟨u',rfl,by simpa using e⟩
theorem pW {α β:Type} (f:α->β) (l:List α) (k:Nat) (d x:α) (hk:k<l.length) (h:f x=f (l.getD k d)):(l.set k x).map f=l.map f:=by
 apply List.ext_getElem?
 intro n;rw[List.getElem?_map,List.getElem?_map,List.getElem?_set];by_cases e:k=n
 ·subst e;rw[if_pos rfl,if_pos hk,getD_at l k d hk];simp[h]
 rw[if_neg e]
structure Alike (l m:aH):Prop where
 looks:Looks l m
 aO:l.aO=m.aO
 aB:l.aB=m.aB
 orders:l.orders=m.orders
 aV:∀ v:Nat,(l.ai.getD v ⟨-1,[],false,0⟩).aV=(m.ai.getD v ⟨-1,[],false,0⟩).aV
theorem DZ {l m:aH} (L:Looks l m) (hp:l.aB=m.aB) (ho:l.orders=m.orders) (a:Nat) (u:Int) (s:Nat):jG l a u s=jG m a u s:=by
 unfold jG;rw[L.pos,hp,ho]
 congr 1
 funext x
 rw[L.ord]
theorem tC {l m:aH} (L:Looks l m) (hp:l.aB=m.aB) (ho:l.orders=m.orders) (a:Nat) (u:Int):∀ n,gQ l a u n=gQ m a u n
 | 0=>rfl
 | n+1=>by unfold gQ;rw[tC L hp ho a u n,DZ L hp ho]
theorem sS {l m:aH} (L:Looks l m) (hc:l.aO=m.aO) (hp:l.aB=m.aB) (ho:l.orders=m.orders) (a:Nat):∀ (us:List eU) (n:Nat) (x:Int),iE l a n us x=iE m a n us x
 | [],n,x=>rfl
 | u::r,n,x=>by
   have e:l.cur u.cur=m.cur u.cur:=by unfold aH.cur;rw[hc]
   unfold iE;rw[tC L hp ho,e]
   simp only[sS L hc hp ho a r]
theorem su (n:Nat):∀ {as bs:List Acc} (x:Int),as.map (·.aV)=bs.map (·.aV)->iw n as x=iw n bs x
 | [],[],x,_=>rfl
 | [],b::bs,x,h=>by simp at h
 | a::as,[],x,h=>by simp at h
 | a::as,b::bs,x,h=>by
   simp only[List.map_cons,List.cons.injEq] at h
   unfold iw;rw[h.1]
   congr 1
   funext y
   exact su n y h.2
theorem sO {l m:aH} {a b:Nat} (h:(l.under a).map (·.aV)=(m.under b).map (·.aV)):∀ (cs:List iJ) (n:Nat) (x:Int),iC l a n cs x=iC m b n cs x
 | [],n,x=>rfl
 | c::r,n,x=>by
   unfold iC;rw[su n 0 h]
   simp only[sO h r]
theorem yK {l m:aH} (h:Alike l m) (a:Nat):dN l a=dN m a:=by
 have hu:(l.under a).map (·.aV)=(m.under a).map (·.aV):=by
  unfold aH.under;rw[h.looks.parents,List.map_map,List.map_map];exact List.map_congr_left fun v _=>h.aV v
 unfold dN Ak vJ;rw[sO hu,h.aO,h.looks.ah]
 congr 1
 funext x
 rw[sS h.looks h.aO h.aB h.orders]
theorem qI {l m:aH} (h:∀ a,dN l a=dN m a):∀ (as:List Acc) (v:Nat),fE l v as=fE m v as
 | [],v=>rfl
 | a::r,v=>by
   unfold fE;rw[h v,qI h r (v+1)]
theorem lS {l:aH}:∀ {as bs:List Acc} {v:Nat},fE l v as=some bs->fE l v bs=some bs
 | [],bs,v,h=>by cases h;rfl
 | a::r,bs,v,h=>by
   unfold fE at h;by_cases hv:v<2
   ·rw[if_pos hv,Option.map_eq_some_iff] at h;obtain⟨cs,h1,rfl⟩:=h;unfold fE;rw[if_pos hv,lS h1];rfl
   rw[if_neg hv,Option.bind_eq_some_iff] at h;obtain⟨x,hx,h⟩:=h;rw[Option.map_eq_some_iff] at h;obtain⟨cs,h1,rfl⟩:=h;unfold fE;rw[if_neg hv,hx,lS h1];rfl
theorem yP {l m:aH} (h:fM l=some m):Alike l m:=by
 obtain⟨h1,h2,h3,h4,h5,h6,h7,h8,hf⟩:=pO h;obtain⟨hn,hk⟩:=jE _ _ _ hf;refine⟨⟨h4.symm,h3.symm,h1.symm,?_⟩,h2.symm,h5.symm,h6.symm,fun v=>?_⟩
 ·exact (vw (·.parent) hn fun k a b ha hb=>(hk k a b ha hb).1).symm
 by_cases hv:v<l.ai.length
 ·have ea:=getD_at l.ai v ⟨-1,[],false,0⟩ hv;have eb:=getD_at m.ai v ⟨-1,[],false,0⟩ (by omega);exact (hk v _ _ ea eb).2.1.symm
 have ea:l.ai.getD v ⟨-1,[],false,0⟩=⟨-1,[],false,0⟩:=by rw[List.getD_eq_getElem?_getD,List.getElem?_eq_none (by omega)];rfl
 have eb:m.ai.getD v ⟨-1,[],false,0⟩=⟨-1,[],false,0⟩:=by rw[List.getD_eq_getElem?_getD,List.getElem?_eq_none (by omega)];rfl
 rw[ea,eb]
theorem yO {l m:aH} (h:fM l=some m):fM m=some m:=by
 have hf:=(pO h).2.2.2.2.2.2.2.2;unfold fM;rw[<-qI (fun a=>yK (yP h) a),lS hf];rfl
theorem Ad {l m:aH} (h:fM l=some m):m={ l with ai:=m.ai }/\m.ai.length=l.ai.length/\∀ (v:Nat) a b,l.ai[v]?=some a->m.ai[v]?=some b->({ b with flag:=a.flag }:Acc)=a:=by
 obtain⟨h1,h2,h3,h4,h5,h6,h7,h8,hf⟩:=pO h;obtain⟨hn,hk⟩:=jE _ _ _ hf;refine⟨?_,hn,fun v a b ha hb=>?_⟩
 ·cases m;cases l
  simp only at h1 h2 h3 h4 h5 h6 h7 h8
  subst h1 h2 h3 h4 h5 h6 h7 h8;rfl
 obtain⟨e1,e2,e3,_⟩:=hk v a b ha hb
 cases a;cases b
 simp only at e1 e2 e3
 subst e1 e2 e3;rfl
end Go.Bw
