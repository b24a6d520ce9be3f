/- Joined: AdmP, AdmQ, AdmR, AdmS, AdmT, AdmU, AdmV, AdmW, LocP, LocD. -/
import Derived.Test.YtfknkmlocbojhaaGreatDoorGb
set_option linter.unusedVariables false
set_option linter.unusedSimpArgs false
namespace Go.Bw
open Classical
structure xZ where
 led:aI
 num:Int
 err:Int
def xZ.no (e:Int):xZ:=⟨⟨0,[],[],[],[],[],[],[],[]⟩,0,e⟩
def aI.acc (l:aI) (n:Int):Acc:=l.ai.getD n.toNat ⟨-1,[],false,0⟩
def Ins.noMark (i:Ins):Ins:={ i with mark:=0 }
def pX (i:Ins) (u:fU) (day:Int):Int×Int :=
 if (0<=u.price/\u.price<=1000000000000)/\(0<=u.dI/\u.dI<=50000) then lq i u.price u.dI day else (0,1)
theorem iw {e:Int} (h:(xZ.no e).err=0):e=0:=h
theorem getD_at {α:Type} (l:List α) (n:Nat) (d:α) (h:n<l.length):l[n]?=some (l.getD n d):=by
 rw[List.getD_eq_getElem?_getD,List.getElem?_eq_getElem h];rfl
theorem Kw {α:Type} {l:List α} {k:Nat} {x:α} {P:Nat->α->Prop} (h:∀ n u,l[n]?=some u->P n u) (hx:P k x):∀ n u,(l.set k x)[n]?=some u->P n u:=by
 intro n u hn;rw[List.getElem?_set] at hn;by_cases e:k=n
 ·subst e;rw[if_pos rfl] at hn;by_cases e2:k<l.length
  ·rw[if_pos e2] at hn;cases hn;exact hx
  rw[if_neg e2] at hn;cases hn
 rw[if_neg e] at hn;exact h n u hn
theorem vH {α β:Type} {f:α->β} {l l':List α} (h:l.map f=l'.map f) {n:Nat} {u:α} (hn:l[n]?=some u):∃ u',l'[n]?=some u'/\f u'=f u:=by
 have e:(l.map f)[n]?=some (f u):=by rw[List.getElem?_map,hn];rfl
 rw[h,List.getElem?_map] at e
 cases hl:l'[n]? with
 | none=>rw[hl] at e;cases e
 | some u'=>rw[hl] at e;exact⟨u',rfl,by simpa using e⟩
theorem sU {α β:Type} (f:α->β) (l:List α) (k:Nat) (d x:α) (hk:k<l.length) (h:f x=f (l.getD k d)):(l.set k x).map f=l.map f:=by
 apply List.ext_getElem?
 intro n;rw[List.getElem?_map,List.getElem?_map,List.getElem?_set];by_cases e:k=n
 ·subst e;rw[if_pos rfl,if_pos hk,getD_at l k d hk];simp[h]
 rw[if_neg e]
structure Alike (l m:aI):Prop where
 looks:Looks l m
 aT:l.aT=m.aT
 aC:l.aC=m.aC
 orders:l.orders=m.orders
 aK:∀ v:Nat,(l.ai.getD v ⟨-1,[],false,0⟩).aK=(m.ai.getD v ⟨-1,[],false,0⟩).aK
theorem Jv {l m:aI} (L:Looks l m) (hp:l.aC=m.aC) (ho:l.orders=m.orders) (a:Nat) (u:Int) (s:Nat):kX l a u s=kX m a u s:=by
 unfold kX;rw[L.pos,hp,ho]
 congr 1
 funext x
 rw[L.ord]
theorem wY {l m:aI} (L:Looks l m) (hp:l.aC=m.aC) (ho:l.orders=m.orders) (a:Nat) (u:Int):∀ n,jd l a u n=jd m a u n
 | 0=>rfl
 | n+1=>by unfold jd;rw[wY L hp ho a u n,Jv L hp ho]
theorem wM {l m:aI} (L:Looks l m) (hc:l.aT=m.aT) (hp:l.aC=m.aC) (ho:l.orders=m.orders) (a:Nat):∀ (us:List fU) (n:Nat) (x:Int),jI l a n us x=jI m a n us x
 | [],n,x=>rfl
 | u::r,n,x=>by
   have e:l.cur u.cur=m.cur u.cur:=by unfold aI.cur;rw[hc]
   unfold jI;rw[wY L hp ho,e]
   simp only[wM L hc hp ho a r]
theorem vY (n:Nat):∀ {as bs:List Acc} (x:Int),as.map (·.aK)=bs.map (·.aK)->jE n as x=jE n bs x
 | [],[],x,_=>rfl
 | [],b::bs,x,h=>by simp at h
 | a::as,[],x,h=>by simp at h
 | a::as,b::bs,x,h=>by
   simp only[List.map_cons,List.cons.injEq] at h
   unfold jE;rw[h.1]
   congr 1
   funext y
   exact vY n y h.2
theorem wK {l m:aI} {a b:Nat} (h:(l.under a).map (·.aK)=(m.under b).map (·.aK)):∀ (cs:List je) (n:Nat) (x:Int),jH l a n cs x=jH m b n cs x
 | [],n,x=>rfl
 | c::r,n,x=>by
   unfold jH;rw[vY n 0 h]
   simp only[wK h r]
theorem Dt {l m:aI} (h:Alike l m) (a:Nat):fE l a=fE m a:=by
 have hu:(l.under a).map (·.aK)=(m.under a).map (·.aK):=by
  unfold aI.under;rw[h.looks.parents,List.map_map,List.map_map];exact List.map_congr_left fun v _=>h.aK v
 unfold fE Gm yU;rw[wK hu,h.aT,h.looks.ah]
 congr 1
 funext x
 rw[wM h.looks h.aT h.aC h.orders]
theorem uy {l m:aI} (h:∀ a,fE l a=fE m a):∀ (as:List Acc) (v:Nat),ig l v as=ig m v as
 | [],v=>rfl
 | a::r,v=>by
   unfold ig;rw[h v,uy h r (v+1)]
theorem oq {l:aI}:∀ {as bs:List Acc} {v:Nat},ig l v as=some bs->ig l v bs=some bs
 | [],bs,v,h=>by cases h;rfl
 | a::r,bs,v,h=>by
   unfold ig at h;by_cases hv:v<2
   ·rw[if_pos hv,Option.map_eq_some_iff] at h;obtain⟨cs,h1,rfl⟩:=h;unfold ig;rw[if_pos hv,oq h1];rfl
   rw[if_neg hv,Option.bind_eq_some_iff] at h;obtain⟨x,hx,h⟩:=h;rw[Option.map_eq_some_iff] at h;obtain⟨cs,h1,rfl⟩:=h;unfold ig;rw[if_neg hv,hx,oq h1];rfl
theorem Dz {l m:aI} (h:gJ l=some m):Alike l m:=by
 obtain⟨h1,h2,h3,h4,h5,h6,h7,h8,hf⟩:=sK h;obtain⟨hn,hk⟩:=kW _ _ _ hf;refine⟨⟨h4.symm,h3.symm,h1.symm,?_⟩,h2.symm,h5.symm,h6.symm,fun v=>?_⟩
 ·exact (yN (·.parent) hn fun k a b ha hb=>(hk k a b ha hb).1).symm
 by_cases hv:v<l.ai.length
 ·have ea:=getD_at l.ai v ⟨-1,[],false,0⟩ hv;have eb:=getD_at m.ai v ⟨-1,[],false,0⟩ (by omega);exact (hk v _ _ ea eb).2.1.symm
 have ea:l.ai.getD v ⟨-1,[],false,0⟩=⟨-1,[],false,0⟩:=by rw[List.getD_eq_getElem?_getD,List.getElem?_eq_none (by omega)];rfl
 have eb:m.ai.getD v ⟨-1,[],false,0⟩=⟨-1,[],false,0⟩:=by rw[List.getD_eq_getElem?_getD,List.getElem?_eq_none (by omega)];rfl
 rw[ea,eb]
theorem Dy {l m:aI} (h:gJ l=some m):gJ m=some m:=by
 have hf:=(sK h).2.2.2.2.2.2.2.2;unfold gJ;rw[<-uy (fun a=>Dt (Dz h) a),oq hf];rfl
structure Ua (l m:aI):Prop where
 day:m.day=l.day
 ai:m.ai=l.ai
 aT:m.aT=l.aT
 aC:m.aC=l.aC
 orders:m.orders=l.orders
 ins:∀ n:Int,0<=n->n<l.af.length->m.ins n=l.ins n
 und:∀ n:Int,0<=n->n<l.ah.length->m.und n=l.und n
theorem Ua.hit {l m:aI} (h:Ua l m) {i:Int} (h0:0<=i) (h1:i<l.af.length) (a:Nat) (u w:Int):m.hit a u i w=l.hit a u i w:=by
 unfold aI.hit aI.parents;rw[h.ins i h0 h1,h.ai]
theorem nZ {l m:aI} (h:gJ l=some m):m={ l with ai:=m.ai }/\m.ai.length=l.ai.length/\∀ (v:Nat) a b,l.ai[v]?=some a->m.ai[v]?=some b->({ b with flag:=a.flag }:Acc)=a:=by
 obtain⟨h1,h2,h3,h4,h5,h6,h7,h8,hf⟩:=sK h;obtain⟨hn,hk⟩:=kW _ _ _ hf;refine⟨?_,hn,fun v a b ha hb=>?_⟩
 ·cases m;cases l
  simp only at h1 h2 h3 h4 h5 h6 h7 h8
  subst h1 h2 h3 h4 h5 h6 h7 h8;rfl
 obtain⟨e1,e2,e3,_⟩:=hk v a b ha hb
 cases a;cases b
 simp only at e1 e2 e3
 subst e1 e2 e3;rfl
end Go.Bw
