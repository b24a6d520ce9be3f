/- Joined: LifP, LifQ, LifR, LifT, LifS, LifU, LifE, LifY. -/
import Derived.Test.YtcepekniflaoaaaGreatDoorGm
import Derived.Test.YtcepekniflaoaaaGreatDoorGn
import Derived.Test.YtcepekniflaoaaaGreatDoorGc
set_option linter.unusedVariables false
set_option linter.unusedSimpArgs false
namespace Go.Bw
open Classical
def aH.none:aH:=⟨0,[],[],[],[],[],[],[],[]⟩
def aH.aT (L:aH) (a c:Int):Int:=(L.acc a).aT.getD c.toNat 0
def aH.di (L:aH) (a c x:Int):aH:={ L with ai:=L.ai.set a.toNat { L.acc a with aT:=(L.acc a).aT.set c.toNat x } }
def fP (L:aH) (c x f t:Int):aH×Int :=
 if (fK (L.aT f c) x).2=0 then
  if (dQ ((L.di f c (fK (L.aT f c) x).1).aT t c) x).2=0 then
   ((L.di f c (fK (L.aT f c) x).1).di t c (dQ ((L.di f c (fK (L.aT f c) x).1).aT t c) x).1,0)
  else (aH.none,(dQ ((L.di f c (fK (L.aT f c) x).1).aT t c) x).2)
 else (aH.none,(fK (L.aT f c) x).2)
def dD (f:Pos->Option (Int×Int)) (c:Pos->Int) (frm:Int):List Pos->aH->aH×Int
 | [],L=>(L,0)
 | p::r,L=>match f p with
   | .none=>dD f c frm r L
   | .some x=>if x.2=0 then (if (fP L (c p) x.1 frm p.ak).2=0 then dD f c frm r (fP L (c p) x.1 frm p.ak).1 else (aH.none,(fP L (c p) x.1 frm p.ak).2)) else (aH.none,x.2)
def aH.dG (L:aH) (n:Int):Int:=(L.und (L.ins n).under).cur
def dZ (i:Ins) (q v:Int):Int×Int:=if (fG q i.mult).2=0 then fG (fG q i.mult).1 v else (0,(fG q i.mult).2)
def qY (L:aH) (n:Nat) (p:Pos):Option (Int×Int):=if p.instr=n then some (dZ (L.ins n) p.qty ((Ai (L.ins n) (L.und (L.ins n).under) L.day).1 - (L.ins n).mark)) else .none
def iI (L:aH) (n:Nat):aH×Int :=
 if (Ai (L.ins n) (L.und (L.ins n).under) L.day).2=0 then
  if (Ai (L.ins n) (L.und (L.ins n).under) L.day).1<=100000000000000 then
   if (dD (qY L n) (fun _=>L.dG n) 0 L.au L).2=0 then
    ({ (dD (qY L n) (fun _=>L.dG n) 0 L.au L).1 with af:=L.af.set n { L.ins n with mark:=(Ai (L.ins n) (L.und (L.ins n).under) L.day).1 } },0)
   else (aH.none,(dD (qY L n) (fun _=>L.dG n) 0 L.au L).2)
  else (aH.none,4)
 else (aH.none,(Ai (L.ins n) (L.und (L.ins n).under) L.day).2)
def pF:Nat->List Ins->aH->aH×Int
 | _,[],L=>(L,0)
 | n,i::r,L=>if i.aN=0\/L.day<=i.aN then (if (iI L n).2=0 then pF (n+1) r (iI L n).1 else (aH.none,(iI L n).2)) else pF (n+1) r L
def Jl (L:aH) (u x:Int) (p:Pos):Option (Int×Int):=if (L.ins p.instr).under=u/\(L.ins p.instr).kind=1 then some (dZ (L.ins p.instr) p.qty x) else .none
def mX (L:aH) (u x:Int):yP :=
 if 0<=u/\u<L.ah.length then
  if 0<=x/\x<=1000000000000 then
   if (dD (Jl L u x) (fun p=>L.dG p.instr) 0 L.au L).2=0 then ⟨(dD (Jl L u x) (fun p=>L.dG p.instr) 0 L.au L).1,u,0⟩
   else .no (dD (Jl L u x) (fun p=>L.dG p.instr) 0 L.au L).2
  else .no 1
 else .no 31
def eU (num den v:Int):Int×Int:=iT v den num 0
def bY (num den q:Int):Int×Int :=
 if (iT q num den 2).2=0 then (if -1000000000<=(iT q num den 2).1/\(iT q num den 2).1<=1000000000 then ((iT q num den 2).1,0) else (0,36)) else (0,(iT q num den 2).2)
def kS (num den:Int) (i:Ins):Ins:={ i with strike:=(eU num den i.strike).1,mark:=(eU num den i.mark).1 }
noncomputable def sZ (num den:Int) (ah:Nat) (i:Ins) (q:Int):Int :=
 if (eU num den i.strike).2=0 then
  if (eU num den i.mark).2=0 then
   if (kS num den i).Ok ah then (bY num den q).2 else 37
  else (eU num den i.mark).2
 else (eU num den i.strike).2
noncomputable def fC (u num den:Int) (ah:Nat):List Ins->List Int->Int
 | i::r,q::s=>if i.under=u then (if sZ num den ah i q=0 then fC u num den ah r s else sZ num den ah i q) else fC u num den ah r s
 | _,_=>0
def gK (u num den:Int) (l:List Ins):List Ins:=l.map fun i=>if i.under=u then kS num den i else i
def eP (u num den:Int) (l:List Ins) (qs:List Int):List Int:=List.zipWith (fun i q=>if i.under=u then (bY num den q).1 else q) l qs
def mr (num den:Int) (i:Ins) (q:Int):Int×Int :=
 if (dZ i q i.mark).2=0 then
  if (bY num den q).2=0 then
   if (dZ i (bY num den q).1 (eU num den i.mark).1).2=0 then fK (dZ i q i.mark).1 (dZ i (bY num den q).1 (eU num den i.mark).1).1
   else (0,(dZ i (bY num den q).1 (eU num den i.mark).1).2)
  else (0,(bY num den q).2)
 else (0,(dZ i q i.mark).2)
def aH.over (L:aH) (u:Int) (n:Int):Bool:=decide ((L.ins n).under=u)
def ku (L:aH) (u num den:Int) (p:Pos):Option (Int×Int):=if L.over u p.instr=true then some (mr num den (L.ins p.instr) p.qty) else .none
def bn (L:aH) (u num den:Int) (l:List Pos):List Pos:=l.map fun p=>if L.over u p.instr=true then { p with qty:=(bY num den p.qty).1 } else p
def dY (L:aH) (u num den:Int):List Pos->Int
 | []=>0
 | p::r=>if L.over u p.instr=true then (if (bY num den p.qty).2=0 then dY L u num den r else (bY num den p.qty).2) else dY L u num den r
def aH.split (L:aH) (u num den:Int):aH:={ L with ah:=L.ah.set u.toNat { L.und u with price:=(eU num den (L.und u).price).1 },af:=gK u num den L.af,aG:=eP u num den L.af L.aG }
noncomputable def cO (L:aH) (u num den:Int):yP :=
 if 0<=u/\u<L.ah.length then
  if 1<=num/\num<=1000/\1<=den/\den<=1000 then
   if (eU num den (L.und u).price).2=0 then
    if dX.Ok { L.und u with price:=(eU num den (L.und u).price).1 } L.aQ.length then
     if fC u num den L.ah.length L.af L.aG=0 then
      if (dD (ku L u num den) (fun p=>L.dG p.instr) 1 L.au (L.split u num den)).2=0 then
       if dY L u num den L.aJ=0 then
        ⟨{ (dD (ku L u num den) (fun p=>L.dG p.instr) 1 L.au (L.split u num den)).1 with au:=(bn L u num den L.au).filter (fun p=>decide (p.qty≠0)),aJ:=(bn L u num den L.aJ).filter (fun p=>decide (0<p.qty)),orders:=L.orders.filter (fun o=>!L.over u o.instr) },u,0⟩
       else .no (dY L u num den L.aJ)
      else .no (dD (ku L u num den) (fun p=>L.dG p.instr) 1 L.au (L.split u num den)).2
     else .no (fC u num den L.ah.length L.af L.aG)
    else .no 37
   else .no (eU num den (L.und u).price).2
  else .no 1
 else .no 31
structure dW (L M:aH):Prop where
 day:M.day=L.day
 aQ:M.aQ=L.aQ
 ah:M.ah=L.ah
 af:M.af=L.af
 au:M.au=L.au
 orders:M.orders=L.orders
 aG:M.aG=L.aG
 aJ:M.aJ=L.aJ
 ai:M.ai.map (fun a=>(a.parent,a.flag,a.last,a.aT.length))=L.ai.map fun a=>(a.parent,a.flag,a.last,a.aT.length)
 fits:(∀ a∈L.ai,∀ x∈a.aT,aO x=true)->∀ a∈M.ai,∀ x∈a.aT,aO x=true
theorem dW.rfl {L:aH}:dW L L:=⟨.refl _,.refl _,.refl _,.refl _,.refl _,.refl _,.refl _,.refl _,.refl _,fun h=>h⟩
theorem dW.trans {L M N:aH} (h:dW L M) (k:dW M N):dW L N :=
 ⟨k.day.trans h.day,k.aQ.trans h.aQ,k.ah.trans h.ah,k.af.trans h.af,k.au.trans h.au,k.orders.trans h.orders,k.aG.trans h.aG,k.aJ.trans h.aJ,k.ai.trans h.ai,fun x=>k.fits (h.fits x)⟩
theorem oD (L:aH) (a c x:Int) (ha:0<=a/\a<L.ai.length) (hx:aO x=true):dW L (L.di a c x):=by
 have hA:=getD_at L.ai a.toNat ⟨-1,[],false,0⟩ (by omega);refine⟨.refl _,.refl _,.refl _,.refl _,.refl _,.refl _,.refl _,.refl _,rM _ _ _ ⟨-1,[],false,0⟩ _ (by omega) ?_,fun h b hb y hy=>?_⟩
 ·show (_,_,_,_)=(_,_,_,_)
  simp[aH.acc]
 rcases List.mem_or_eq_of_mem_set hb with hb|hb
 ·exact h b hb y hy
 subst hb;rcases List.mem_or_eq_of_mem_set hy with hy|hy
 ·exact h _ (List.mem_of_getElem? hA) y hy
 rw[hy];exact hx
theorem uy {a b:Int} (h:(dQ a b).2=0):aO (dQ a b).1=true:=by
 unfold dQ at h ⊢
 split at h
 ·rename_i h4;rw[if_pos h4];exact h4.2.2
 cases h
theorem uS {a b:Int} (h:(fK a b).2=0):aO (fK a b).1=true:=by
 unfold fK at h ⊢
 split at h
 ·rename_i h4;rw[if_pos h4];exact h4.2.2
 cases h
theorem kW {L:aH} {c x f t:Int} (hf:0<=f/\f<L.ai.length) (ht:0<=t/\t<L.ai.length) (h:(fP L c x f t).2=0):dW L (fP L c x f t).1:=by
 unfold fP at h ⊢
 split at h
 ·rename_i h1;rw[if_pos h1]
  split at h
  ·rename_i h2;rw[if_pos h2];have k:=oD L f c _ hf (uS h1);exact k.trans (oD _ t c _ ⟨ht.1,by simpa [aH.di] using ht.2⟩ (uy h2))
  rename_i h2;exact absurd h h2
 rename_i h1;exact absurd h h1
theorem dW.len {L M:aH} (h:dW L M):M.ai.length=L.ai.length:=by
 have:=congrArg List.length h.ai
 simpa using this
theorem jY {f:Pos->Option (Int×Int)} {c:Pos->Int} {frm:Int}:∀ {ps:List Pos} {L:aH} (hf:0<=frm/\frm<L.ai.length) (hp:∀ p∈ps,0<=p.ak/\p.ak<L.ai.length)
 (h:(dD f c frm ps L).2=0),dW L (dD f c frm ps L).1
 | [],L,hf,hp,h=>dW.rfl
 | p::r,L,hf,hp,h=>by
   unfold dD at h ⊢
   cases hq:f p with
   | none =>
     rw[hq] at h;exact jY hf (fun q hq=>hp q (List.mem_cons_of_mem _ hq)) h
   | some x =>
     rw[hq] at h
     simp only at h ⊢
     by_cases h1:x.2=0
     ·rw[if_pos h1] at h ⊢;by_cases h2:(fP L (c p) x.1 frm p.ak).2=0
      ·rw[if_pos h2] at h ⊢;have k:=kW hf (hp p (List.mem_cons_self ..)) h2;exact k.trans (jY (by rw[k.len];exact hf) (fun q hq=>by rw[k.len];exact hp q (List.mem_cons_of_mem _ hq)) h)
      rw[if_neg h2] at h;exact absurd h h2
     rw[if_neg h1] at h;exact absurd h h1
theorem dW.good {L M:aH} (h:dW L M) (g:L.Good):M.Good:=by
 have hp:M.ai.map (·.parent)=L.ai.map (·.parent):=by
  have:=congrArg (List.map (fun x:Int×Bool×Int×Nat=>x.1)) h.ai
  simpa [List.map_map,Function.comp_def] using this
 have T:=g.things;refine⟨by rw[h.day];exact g.d0,by rw[h.day];exact g.d1,⟨by rw[h.aQ];exact T.c0,by rw[h.aQ];exact T.c1,by rw[h.ah];exact T.u1,by rw[h.af];exact T.i1,by rw[h.aQ];exact T.aQ,by rw[h.ah,h.aQ];exact T.ah,by rw[h.ah];exact T.names,by rw[h.af,h.ah];exact T.af⟩,
  ⟨by rw[hp];exact g.accounts.tree,fun v a ha=>?_⟩,by rw[h.au,h.len,h.af];exact g.au,by rw[h.orders,h.len,h.af];exact g.orders,by rw[h.aG,h.aJ,h.len,h.af];exact g.aJ,fun o ho a ha=>?_⟩
 ·obtain⟨b,hb,e⟩:=uK h.ai ha;obtain⟨o1,o2,o3,o4,o5⟩:=g.accounts.ai v b hb
  simp only[Prod.mk.injEq] at e
  obtain⟨e1,e2,e3,e4⟩:=e;exact⟨by rw[h.aQ,<-e4];exact o1,by rw[<-e3];exact o2,by rw[<-e3];exact o3,fun hv=>by rw[<-e2,<-e3];exact o4 hv,fun x hx=>h.fits (fun a ha x hx=>by
   obtain⟨n,hn⟩:=List.getElem?_of_mem ha;exact (g.accounts.ai n a hn).2.2.2.2 x hx) a (List.mem_of_getElem? ha) x hx⟩
 obtain⟨b,hb,e⟩:=uK h.ai ha
 simp only[Prod.mk.injEq] at e
 rw[h.orders] at ho;have:=g.ids o ho b hb;rw[e.2.2.1] at this;exact this
theorem Ip {L:aH} (h:L.Good) {n:Nat} (hn:n<L.af.length):(L.ins n).Ok L.ah.length:=by
 have:L.af[n]?=some (L.ins n):=getD_at L.af n _ hn;exact h.things.af _ (List.mem_of_getElem? this)
theorem OZ {L:aH} (h:L.Good) {n:Nat} (hn:n<L.af.length) :
 (Ai (L.ins n) (L.und (L.ins n).under) L.day).2=0/\0<=(Ai (L.ins n) (L.und (L.ins n).under) L.day).1:=by
 have hi:=Ip h hn;have hu:=h.Hw (n:=(L.ins n).under) hi.1 hi.2.1;obtain⟨_,_,_,p0,p1,v0,v1⟩:=hu;obtain⟨x,e,a,b⟩:=D9 hi (L.und (L.ins n).under).price (L.und (L.ins n).under).cZ L.day (by omega) (by omega) v0 (by omega) h.d0 h.d1;unfold Ai;rw[if_pos ⟨⟨by omega,p1⟩,v0,v1⟩,e];exact⟨rfl,a⟩
theorem Jv {L:aH} (h:L.Good) {n:Nat} {x:Int} (h0:0<=x) (h1:x<=100000000000000):aH.Good { L with af:=L.af.set n { L.ins n with mark:=x } }:=by
 by_cases hn:n<L.af.length
 ·have T:=h.things;obtain⟨x1,x2,x3,x4,_,_,x5⟩:=Ip h hn;refine⟨h.d0,h.d1,⟨T.c0,T.c1,T.u1,by simpa using T.i1,T.aQ,T.ah,T.names,?_⟩,⟨h.accounts.tree,h.accounts.ai⟩,by simpa using h.au,by simpa using h.orders,by simpa using h.aJ,h.ids⟩;intro i hi;rcases List.mem_or_eq_of_mem_set hi with hi|hi
  ·exact T.af i hi
  rw[hi];exact⟨x1,x2,x3,x4,h0,h1,x5⟩
 rw[List.set_eq_of_length_le (by omega)];exact h
theorem oK {L:aH} (h:L.Good):(0:Int)<L.ai.length:=by
 have h2:2<=L.ai.length:=by simpa using h.accounts.tree.lo
 omega
structure lS (L M:aH):Prop where
 good:M.Good
 day:M.day=L.day
 aQ:M.aQ=L.aQ
 ah:M.ah=L.ah
 af:M.af.map Ins.noMark=L.af.map Ins.noMark
 au:M.au=L.au
 orders:M.orders=L.orders
 aG:M.aG=L.aG
 aJ:M.aJ=L.aJ
 ai:M.ai.map (fun a=>(a.parent,a.flag,a.last,a.aT.length))=L.ai.map fun a=>(a.parent,a.flag,a.last,a.aT.length)
theorem lS.trans {L M N:aH} (h:lS L M) (k:lS M N):lS L N :=
 ⟨k.good,k.day.trans h.day,k.aQ.trans h.aQ,k.ah.trans h.ah,k.af.trans h.af,k.au.trans h.au,k.orders.trans h.orders,k.aG.trans h.aG,k.aJ.trans h.aJ,k.ai.trans h.ai⟩
theorem rC {L:aH} (h:L.Good) {n:Nat} (hn:n<L.af.length) (he:(iI L n).2=0):lS L (iI L n).1:=by
 obtain⟨n1,n2⟩:=OZ h hn;unfold iI at he ⊢;rw[if_pos n1] at he ⊢;by_cases h1:(Ai (L.ins n) (L.und (L.ins n).under) L.day).1<=100000000000000
 ·rw[if_pos h1] at he ⊢;by_cases h2:(dD (qY L n) (fun _=>L.dG n) 0 L.au L).2=0
  ·rw[if_pos h2];have k:=jY (f:=qY L n) (c:=fun _=>L.dG n) (frm:=0) (ps:=L.au) (L:=L) ⟨Int.le_refl _,oK h⟩ (fun p hp=>by
    obtain⟨a1,a2,_⟩:=h.au.all p hp;omega) h2
   have g:=Jv (k.good h) (n:=n) n2 h1;have ei:(dD (qY L n) (fun _=>L.dG n) 0 L.au L).1.ins n=L.ins n:=by unfold aH.ins;rw[k.af]
   rw[ei,k.af] at g;exact⟨g,k.day,k.aQ,k.ah,rM _ _ _ ⟨0,0,0,0,0,false,0⟩ _ hn rfl,k.au,k.orders,k.aG,k.aJ,k.ai⟩
  rw[if_neg h2] at he;exact absurd he h2
 rw[if_neg h1] at he;exact absurd he (by decide)
theorem jB.filter {ps:List Pos} {a i:Nat} (h:jB ps a i) (f:Pos->Bool):jB (ps.filter f) a i :=
 ⟨Nat.le_trans (List.length_filter_le ..) h.len,fun p hp=>h.all p (List.mem_filter.1 hp).1,h.rise.sub Pos.Lt.trans List.filter_sublist⟩
theorem gX.filter {ps:List Ord} {a i:Nat} (h:gX ps a i) (f:Ord->Bool):gX (ps.filter f) a i :=
 ⟨Nat.le_trans (List.length_filter_le ..) h.len,fun p hp=>h.all p (List.mem_filter.1 hp).1,h.rise.sub Ord.Lt.trans List.filter_sublist⟩
theorem yX {L:aH} (h:L.Good) {u x:Int} (he:(mX L u x).err=0):(mX L u x).led.Good:=by
 unfold mX at he ⊢;by_cases h1:0<=u/\u<L.ah.length
 ·rw[if_pos h1] at he ⊢;by_cases h2:0<=x/\x<=1000000000000
  ·rw[if_pos h2] at he ⊢;by_cases h3:(dD (Jl L u x) (fun p=>L.dG p.instr) 0 L.au L).2=0
   ·rw[if_pos h3];exact (jY ⟨Int.le_refl _,oK h⟩ (fun p hp=>by
     obtain⟨a1,a2,_⟩:=h.au.all p hp;omega) h3).good h
   rw[if_neg h3] at he;exact absurd he h3
  rw[if_neg h2] at he;exact absurd (xQ he) (by decide)
 rw[if_neg h1] at he;exact absurd (xQ he) (by decide)
theorem O0 (q:Nat):0<=(kF q false).1:=by
 unfold kF;by_cases h:4611686018427387904<q
 ·rw[if_pos h];exact Int.le_refl 0
 rw[if_neg h];exact Int.natCast_nonneg _
theorem Iu {a b c m:Int} (ha:0<=a) (hb:0<=b) (hc:0<=c):0<=(iT a b c m).1:=by
 unfold iT
 split
 ·exact Int.le_refl _
 split
 ·exact Int.le_refl _
 have e:CJ a b c=false:=by unfold CJ;rw[decide_eq_false (by omega:¬ a<0),decide_eq_false (by omega:¬ b<0),decide_eq_false (by omega:¬ c<0)];rfl
 rw[e];exact O0 _
theorem uP (num den q:Int):-1000000000<=(bY num den q).1/\(bY num den q).1<=1000000000:=by
 unfold bY
 split
 ·split
  ·assumption
  exact⟨by show (-1000000000:Int)<=0;decide,by show (0:Int)<=1000000000;decide⟩
 exact⟨by show (-1000000000:Int)<=0;decide,by show (0:Int)<=1000000000;decide⟩
theorem He {num den q:Int} (h0:0<=q) (h1:1<=num) (h2:1<=den):0<=(bY num den q).1:=by
 unfold bY
 split
 ·split
  ·exact Iu h0 (by omega) (by omega)
  exact Int.le_refl 0
 exact Int.le_refl 0
theorem xk {u num den:Int} {m:Nat}:∀ {l:List Ins} {qs:List Int},l.length=qs.length->fC u num den m l qs=0->∀ i∈l,i.under=u->(kS num den i).Ok m
 | [],qs,hl,h,i,hi,e=>by cases hi
 | x::r,[],hl,h,i,hi,e=>by simp at hl
 | x::r,q::s,hl,h,i,hi,e=>by
   unfold fC at h;rcases List.mem_cons.1 hi with hi|hi
   ·subst hi;rw[if_pos e] at h
    split at h
    ·rename_i h1;unfold sZ at h1
     split at h1
     ·split at h1
      ·split at h1
       ·assumption
       exact absurd h1 (by decide)
      rename_i h2;exact absurd h1 h2
     rename_i h2;exact absurd h1 h2
    rename_i h2;exact absurd h h2
   have hl':r.length=s.length:=by simpa using hl
   split at h
   ·split at h
    ·exact xk hl' h i hi e
    rename_i h2;exact absurd h h2
   exact xk hl' h i hi e
theorem yS {u num den:Int}:∀ {l:List Ins} {qs:List Int} {x:Int},x∈eP u num den l qs->∃ q∈qs,x=q\/x=(bY num den q).1
 | [],qs,x,h=>by simp[eP] at h
 | i::r,[],x,h=>by simp[eP] at h
 | i::r,q::s,x,h=>by
   unfold eP at h;rw[List.zipWith_cons_cons] at h;rcases List.mem_cons.1 h with h|h
   ·refine⟨q,List.mem_cons_self ..,?_⟩;rw[h]
    split
    ·exact Or.inr rfl
    exact Or.inl rfl
   obtain⟨y,hy,e⟩:=yS (l:=r) (qs:=s) h;exact⟨y,List.mem_cons_of_mem _ hy,e⟩
theorem rX {L:aH} (h:L.Good) {u num den:Int} (hu:0<=u/\u<L.ah.length) (hn:1<=num) (hd:1<=den)
 (hok:dX.Ok { L.und u with price:=(eU num den (L.und u).price).1 } L.aQ.length) (hi:fC u num den L.ah.length L.af L.aG=0):(L.split u num den).Good:=by
 have T:=h.things;have el:(gK u num den L.af).length=L.af.length:=by simp[gK]
 have hm:(L.ah.set u.toNat { L.und u with price:=(eU num den (L.und u).price).1 }).map (·.name)=L.ah.map (·.name):=rM _ _ _ ⟨⟨#[]⟩,0,0,0⟩ _ (by omega) rfl;refine⟨h.d0,h.d1,⟨T.c0,T.c1,by simpa [aH.split] using T.u1,by simpa [aH.split,el] using T.i1,T.aQ,Oy T.ah hok,?_,?_⟩,⟨h.accounts.tree,h.accounts.ai⟩,
  by show jB L.au L.ai.length (gK u num den L.af).length;rw[el];exact h.au,by show gX L.orders L.ai.length (gK u num den L.af).length;rw[el];exact h.orders,?_,h.ids⟩
 ·intro n k a b hk ha hb;obtain⟨a',ha',ea⟩:=uK hm ha;obtain⟨b',hb',eb⟩:=uK hm hb;have:=T.names n k a' b' hk ha' hb';rw[ea,eb] at this;exact this
 ·intro i hi';have hi2:i∈gK u num den L.af:=hi';unfold gK at hi2;obtain⟨x,hx,rfl⟩:=List.mem_map.1 hi2
  show Ins.Ok _ (L.ah.set _ _).length
  rw[List.length_set]
  split
  ·rename_i e;exact xk h.aJ.len.symm hi x hx e
  exact T.af x hx
 refine⟨?_,h.aJ.Ae,?_,?_,h.aJ.rise⟩
 ·show (eP u num den L.af L.aG).length=(gK u num den L.af).length
  rw[el];simp[eP,h.aJ.len]
 ·intro x hx;obtain⟨q,hq,e⟩:=yS (show x∈eP u num den L.af L.aG from hx);obtain⟨q0,q1⟩:=h.aJ.aG q hq;rcases e with e|e
  ·rw[e];exact⟨q0,q1⟩
  rw[e];exact⟨He q0 hn hd,(uP _ _ _).2⟩
 show ∀ x∈L.aJ,2<=x.ak/\x.ak<L.ai.length/\0<=x.instr/\x.instr<(gK u num den L.af).length/\_
 rw[el];exact h.aJ.all
theorem ul {L:aH} {u num den:Int} {l:List Pos} {p:Pos} (h:p∈bn L u num den l):∃ p'∈l,p.ak=p'.ak/\p.instr=p'.instr/\(p.qty=p'.qty\/p.qty=(bY num den p'.qty).1):=by
 unfold bn at h;obtain⟨x,hx,rfl⟩:=List.mem_map.1 h;refine⟨x,hx,?_⟩
 split
 ·exact⟨rfl,rfl,Or.inr rfl⟩
 exact⟨rfl,rfl,Or.inl rfl⟩
theorem rE {L:aH} {u num den:Int} {l:List Pos} (h:iK Pos.Lt l):iK Pos.Lt (bn L u num den l):=by
 intro n a b ha hb;unfold bn at ha hb;rw[List.getElem?_map] at ha hb
 cases hx:l[n]? with
 | none=>rw[hx] at ha;cases ha
 | some x =>
   cases hy:l[n+1]? with
   | none=>rw[hy] at hb;cases hb
   | some y =>
     rw[hx] at ha;rw[hy] at hb;have:=h n x y hx hy
     simp only[Option.map_some,Option.some.injEq] at ha hb
     subst ha hb;unfold Pos.Lt at *
     split <;> split <;> exact this
theorem qL {L:aH} (h:L.Good) {u num den:Int} (he:(cO L u num den).err=0):(cO L u num den).led.Good:=by
 unfold cO at he ⊢;by_cases h1:0<=u/\u<L.ah.length
 ·rw[if_pos h1] at he ⊢;by_cases h2:1<=num/\num<=1000/\1<=den/\den<=1000
  ·rw[if_pos h2] at he ⊢;by_cases h3:(eU num den (L.und u).price).2=0
   ·rw[if_pos h3] at he ⊢;by_cases h4:dX.Ok { L.und u with price:=(eU num den (L.und u).price).1 } L.aQ.length
    ·rw[if_pos h4] at he ⊢;by_cases h5:fC u num den L.ah.length L.af L.aG=0
     ·rw[if_pos h5] at he ⊢;by_cases h6:(dD (ku L u num den) (fun p=>L.dG p.instr) 1 L.au (L.split u num den)).2=0
      ·rw[if_pos h6] at he ⊢;by_cases h7:dY L u num den L.aJ=0
       ·rw[if_pos h7];have g0:=rX h h1 h2.1 h2.2.2.1 h4 h5;have k:=jY (f:=ku L u num den) (c:=fun p=>L.dG p.instr) (frm:=1) (ps:=L.au) (L:=L.split u num den) ⟨by decide,by
         have h2:2<=L.ai.length:=by simpa using h.accounts.tree.lo
         show (1:Int)<L.ai.length
         omega⟩ (fun p hp=>by
         obtain⟨a1,a2,_⟩:=h.au.all p hp;exact⟨by omega,a2⟩) h6
        have g:=k.good g0;have T:=g.things;have P:=g.au;have O:=g.orders;have Q:=g.aJ;rw[k.au] at P;rw[k.orders] at O;rw[k.aG,k.aJ] at Q;have D:=g.ids;rw[k.orders] at D;refine⟨g.d0,g.d1,⟨T.c0,T.c1,T.u1,T.i1,T.aQ,T.ah,T.names,T.af⟩,⟨g.accounts.tree,g.accounts.ai⟩,⟨?_,?_,?_⟩,O.filter _,⟨by rw[<-k.aG] at Q;exact Q.len,?_,by rw[<-k.aG] at Q;exact Q.aG,?_,?_⟩,?_⟩
        ·exact Nat.le_trans (List.length_filter_le ..) (by simpa [bn] using h.au.len)
        ·intro p hp;obtain⟨m,hq⟩:=List.mem_filter.1 hp;obtain⟨x,hx,e1,e2,e3⟩:=ul m;obtain⟨a1,a2,a3,a4,a5,a6,a7⟩:=P.all x hx;have hs:=uP num den x.qty;refine⟨by rw[e1];exact a1,by rw[e1];exact a2,by rw[e2];exact a3,by rw[e2];exact a4,by simpa using hq,?_,?_⟩ <;> rcases e3 with e3|e3 <;> rw[e3] <;> omega
        ·exact (rE h.au.rise).sub Pos.Lt.trans List.filter_sublist
        ·exact Nat.le_trans (List.length_filter_le ..) (by simpa [bn] using h.aJ.Ae)
        ·intro p hp;obtain⟨m,hq⟩:=List.mem_filter.1 hp;obtain⟨x,hx,e1,e2,e3⟩:=ul m;obtain⟨a1,a2,a3,a4,a5,a6⟩:=Q.all x hx;have hs:=uP num den x.qty;have hq':0<p.qty:=by simpa using hq
         refine⟨by rw[e1];exact a1,by rw[e1];exact a2,by rw[e2];exact a3,by rw[e2];exact a4,by omega,?_⟩;rcases e3 with e3|e3 <;> rw[e3] <;> omega
        ·exact (rE h.aJ.rise).sub Pos.Lt.trans List.filter_sublist
        intro o ho a ha;exact D o (List.mem_filter.1 ho).1 a ha
       rw[if_neg h7] at he;exact absurd he h7
      rw[if_neg h6] at he;exact absurd he h6
     rw[if_neg h5] at he;exact absurd he h5
    rw[if_neg h4] at he;exact absurd (xQ he) (by decide)
   rw[if_neg h3] at he;exact absurd he h3
  rw[if_neg h2] at he;exact absurd (xQ he) (by decide)
 rw[if_neg h1] at he;exact absurd (xQ he) (by decide)
def aH.kH (L:aH) (a c:Int):Prop:=(0<=a/\a<L.ai.length)/\0<=c/\c<(L.acc a).aT.length
theorem AQ {L:aH} {a c x v:Int} (ha:0<=a/\a<L.ai.length) (hv:0<=v) :
 (L.di a c x).acc v=if a=v then { L.acc a with aT:=(L.acc a).aT.set c.toNat x } else L.acc v:=by
 unfold aH.di
 show (L.ai.set a.toNat _).getD v.toNat _=_
 rw[List.getD_eq_getElem?_getD,List.getElem?_set];by_cases e:a=v
 ·subst e;rw[if_pos rfl,if_pos (by omega),if_pos rfl];rfl
 rw[if_neg (by omega),if_neg e];unfold aH.acc;rw[List.getD_eq_getElem?_getD]
theorem aH.kH.set {L:aH} {a c x b d:Int} (h:L.kH b d) (ha:0<=a/\a<L.ai.length):(L.di a c x).kH b d:=by
 obtain⟨h1,h2,h3⟩:=h;refine⟨⟨h1.1,by simpa [aH.di] using h1.2⟩,h2,?_⟩;rw[AQ ha h1.1];by_cases e:a=b
 ·subst e;rw[if_pos rfl];simpa using h3
 rw[if_neg e];exact h3
theorem dW.has {L M:aH} (h:dW L M) {a c:Int} (k:L.kH a c):M.kH a c:=by
 obtain⟨k1,k2,k3⟩:=k;refine⟨by rw[h.len];exact k1,k2,?_⟩;have hA:=getD_at M.ai a.toNat ⟨-1,[],false,0⟩ (by rw[h.len];omega);obtain⟨b,hb,e⟩:=uK h.ai hA;have hB:=getD_at L.ai a.toNat ⟨-1,[],false,0⟩ (by omega);rw[hb] at hB;cases hB
 simp only[Prod.mk.injEq] at e
 show c<(M.ai.getD a.toNat _).aT.length
 rw[<-e.2.2.2];exact k3
theorem aH.Good.has {L:aH} (h:L.Good) {a c:Int} (ha:0<=a/\a<L.ai.length) (hc:0<=c/\c<L.aQ.length):L.kH a c:=by
 refine⟨ha,hc.1,?_⟩;have hA:=getD_at L.ai a.toNat ⟨-1,[],false,0⟩ (by omega);have:=(h.accounts.ai _ _ hA).1
 show c<(L.ai.getD a.toNat _).aT.length
 rw[this];exact hc.2
theorem aH.Good.nK {L:aH} (h:L.Good) {n:Int} (h0:0<=n) (h1:n<L.af.length):0<=L.dG n/\L.dG n<L.aQ.length:=by
 have hi:=h.Ff h0 h1;have hu:=h.Hw hi.1 hi.2.1;exact⟨hu.2.1,hu.2.2.1⟩
theorem aH.Good.two {L:aH} (h:L.Good):(1:Int)<L.ai.length:=by
 have h2:2<=L.ai.length:=by simpa using h.accounts.tree.lo
 omega
theorem aH.kH.ai {L M:aH} (e:M.ai=L.ai) {a c:Int} (h:L.kH a c):M.kH a c:=by
 unfold aH.kH aH.acc at *;rw[e];exact h
theorem lS.len {L M:aH} (h:lS L M):M.ai.length=L.ai.length:=by
 have:=congrArg List.length h.ai
 simpa using this
end Go.Bw
namespace Go.Proofs.YtcepekniflaoaaaGreatDoor
open Go.RowKit Go.Bw Go.Maps Go.Shelf Go.Bw.Fall
def pG:aH:=⟨0,[⟨1000000,0⟩],[⟨⟨#[65]⟩,0,101,0⟩],[⟨1,0,1,0,0,false,101⟩],[⟨-1,[0],false,0⟩,⟨-1,[0],false,0⟩,⟨-1,[1000],false,0⟩],[⟨2,0,5⟩],[],[0],[]⟩
def uH:aH:=⟨0,[⟨1000000,0⟩],[⟨⟨#[65]⟩,0,67,0⟩],[⟨1,0,1,0,0,false,67⟩],[⟨-1,[0],false,0⟩,⟨-1,[-36],false,0⟩,⟨-1,[1036],false,0⟩],[⟨2,0,7⟩],[],[0],[]⟩
def yE:aH:=⟨0,[⟨1000000,0⟩],[⟨⟨#[65]⟩,0,101,0⟩],[⟨1,0,1,0,0,false,101⟩],[⟨-1,[-20],false,0⟩,⟨-1,[0],false,0⟩,⟨-1,[1020],false,0⟩],[⟨2,0,5⟩],[],[0],[]⟩
theorem Fz {α:Type} {x:α} {n:Nat} {y:α} (h:[x][n]?=some y):n=0/\y=x:=by
 have h1:=(List.getElem?_eq_some_iff.1 h).1;have:n=0:=by simpa using h1
 subst this;exact⟨rfl,by simpa using h.symm⟩
theorem xX {α:Type} {lt:α->α->Prop} {l:List α} (h:l.length<=1):iK lt l:=fun i a b ha hb=>by
 have:=(List.getElem?_eq_some_iff.1 hb).1;omega
theorem sQ:pG.Good:=by
 refine⟨by decide,by decide,⟨by decide,by decide,by decide,by decide,?_,?_,?_,?_⟩,⟨⟨by decide,by decide,?_⟩,?_⟩,⟨by decide,?_,xX (by decide)⟩,⟨by decide,by simp[pG],xX (by decide)⟩,⟨by decide,by decide,?_,?_,xX (by decide)⟩,by simp[pG]⟩
 ·intro n c hc;obtain⟨rfl,rfl⟩:=Fz hc;exact⟨by decide,by decide,by decide,by decide,fun _=>rfl⟩
 ·intro n c hc;obtain⟨rfl,rfl⟩:=Fz hc;exact⟨by decide,by decide,by decide,by decide,by decide,by decide,by decide⟩
 ·intro n k u v hk hu;obtain⟨rfl,rfl⟩:=Fz hu;omega
 ·intro i hi
  simp only[pG,List.mem_cons,List.not_mem_nil,or_false] at hi
  subst hi;exact⟨by decide,by decide,by decide,by decide,by decide,by decide,Or.inl (by decide)⟩
 ·intro v p hp
  left
  have:=List.mem_of_getElem? hp
  simpa [pG] using this
 ·intro v a ha
  match v,ha with
  | 0,ha=>cases ha;exact⟨rfl,by decide,by decide,fun _=>⟨rfl,rfl⟩,by decide⟩
  | 1,ha=>cases ha;exact⟨rfl,by decide,by decide,fun _=>⟨rfl,rfl⟩,by decide⟩
  | 2,ha=>cases ha;exact⟨rfl,by decide,by decide,fun h=>by omega,by decide⟩
  | v+3,ha=>simp[pG] at ha
 ·intro p hp
  simp only[pG,List.mem_cons,List.not_mem_nil,or_false] at hp
  subst hp;exact⟨by decide,by decide,by decide,by decide,by decide,by decide,by decide⟩
 ·intro q hq
  simp only[pG,List.mem_cons,List.not_mem_nil,or_false] at hq
  subst hq;decide
 intro x hx;simp[pG] at hx
theorem sO:mX pG 0 4=⟨yE,0,0⟩:=by
 unfold mX;rw[if_pos (by decide),if_pos (by decide),if_pos (by decide +kernel)];have:(dD (Jl pG 0 4) (fun p=>pG.dG p.instr) 0 pG.au pG).1=yE:=by kernel_rfl
 rw[this]
theorem nO:cO pG 0 3 2=⟨uH,0,0⟩:=by
 unfold cO;rw[if_pos (by decide),if_pos (by decide),if_pos (by decide +kernel),if_pos ⟨by decide +kernel,by decide,by decide,by decide +kernel,by decide +kernel,by decide,by decide⟩,if_pos ?_,if_pos (by decide +kernel),if_pos (by decide +kernel)]
 ·have:(dD (ku pG 0 3 2) (fun p=>pG.dG p.instr) 1 pG.au (pG.split 0 3 2)).1={ uH with au:=pG.au }:=by kernel_rfl
  rw[this];have e1:(bn pG 0 3 2 pG.au).filter (fun p=>decide (p.qty≠0))=uH.au:=by kernel_rfl
  have e2:(bn pG 0 3 2 pG.aJ).filter (fun p=>decide (0<p.qty))=uH.aJ:=by kernel_rfl
  rw[e1,e2];rfl
 show fC 0 3 2 1 [⟨1,0,1,0,0,false,101⟩] [0]=0
 unfold fC;have e:sZ 3 2 1 ⟨1,0,1,0,0,false,101⟩ 0=0:=by
  unfold sZ;rw[if_pos (by decide +kernel),if_pos (by decide +kernel),if_pos ⟨by decide,by decide,by decide,by decide,by decide +kernel,by decide +kernel,Or.inl ⟨by decide,by decide +kernel,by decide,by decide⟩⟩];decide +kernel
 rw[if_pos rfl,if_pos e];rfl
theorem Ez:jR uH=some uH:=by kernel_rfl
theorem ED:jR yE=some yE:=by kernel_rfl
theorem Jo:uH.Good:=by
 have:=qL sQ (u:=0) (num:=3) (den:=2) (by rw[nO]);rw[nO] at this;exact this
theorem Jp:yE.Good:=by
 have:=yX sQ (u:=0) (x:=4) (by rw[sO]);rw[sO] at this;exact this
theorem EH:jM pG (cO pG 0 3 2)=(uH,0,0):=by
 have hf:=mW Jo Ez;rw[sG sQ (by rw[nO]) (by rw[nO,hf]),nO,hf]
theorem Lp:jM pG (mX pG 0 4)=(yE,0,0):=by
 have hf:=mW Jp ED;rw[sG sQ (by rw[sO]) (by rw[sO,hf]),sO,hf]
end Go.Proofs.YtcepekniflaoaaaGreatDoor
namespace Go.Proofs.YtcepekniflaoaaaGreatDoor
open Go.RowKit Go.Bw Go.Maps Go.Shelf
theorem Dk {i:Ins} {q v:Int} (hq:aO q=true):jZ [q,i.mult,v] 1=dZ i q v:=by
 have h1:fG 1 q=(q,0):=by rw[lF,Int.one_mul,if_pos ⟨rfl,hq,hq⟩]
 unfold jZ;rw[h1]
 simp only[ne_eq,not_true_eq_false,if_false]
 unfold jZ dZ;by_cases h2:(fG q i.mult).2=0
 ·rw[if_neg (fun h=>h h2),if_pos h2];unfold jZ;by_cases h3:(fG (fG q i.mult).1 v).2=0
  ·rw[if_neg (fun h=>h h3)];unfold jZ;exact Prod.ext rfl h3.symm
  rw[if_pos h3];rcases jW (fG q i.mult).1 v with e|e
  ·exact absurd e.1 h3
  rw[e]
 rw[if_pos h2,if_neg h2]
end Go.Proofs.YtcepekniflaoaaaGreatDoor
