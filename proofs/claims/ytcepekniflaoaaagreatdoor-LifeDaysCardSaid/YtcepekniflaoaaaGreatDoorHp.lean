/- Joined: LifP, LifQ, LifR, LifT, LifS, LifU, LifE, LifY. -/
import Derived.Test.YtcepekniflaoaaaGreatDoorGm
import Derived.Test.YtcepekniflaoaaaGreatDoorGn
import Derived.Test.YtcepekniflaoaaaGreatDoorGc
set_option linter.unusedVariables false
set_option linter.unusedSimpArgs false
namespace Go.Bw
open Classical
def aI.none:aI:=⟨0,[],[],[],[],[],[],[],[]⟩
def aI.aT (L:aI) (a c:Int):Int:=(L.acc a).aT.getD c.toNat 0
def aI.dh (L:aI) (a c x:Int):aI:={ L with ai:=L.ai.set a.toNat { L.acc a with aT:=(L.acc a).aT.set c.toNat x } }
def fJ (L:aI) (c x f t:Int):aI×Int :=
 if (fH (L.aT f c) x).2=0 then
  if (dQ ((L.dh f c (fH (L.aT f c) x).1).aT t c) x).2=0 then
   ((L.dh f c (fH (L.aT f c) x).1).dh t c (dQ ((L.dh f c (fH (L.aT f c) x).1).aT t c) x).1,0)
  else (aI.none,(dQ ((L.dh f c (fH (L.aT f c) x).1).aT t c) x).2)
 else (aI.none,(fH (L.aT f c) x).2)
def dw (f:Pos->Option (Int×Int)) (c:Pos->Int) (frm:Int):List Pos->aI->aI×Int
 | [],L=>(L,0)
 | p::r,L=>match f p with
   | .none=>dw f c frm r L
   | .some x=>if x.2=0 then (if (fJ L (c p) x.1 frm p.ak).2=0 then dw f c frm r (fJ L (c p) x.1 frm p.ak).1 else (aI.none,(fJ L (c p) x.1 frm p.ak).2)) else (aI.none,x.2)
def aI.cZ (L:aI) (n:Int):Int:=(L.und (L.ins n).under).cur
def dP (i:Ins) (q v:Int):Int×Int:=if (eU q i.mult).2=0 then eU (eU q i.mult).1 v else (0,(eU q i.mult).2)
def gU (L:aI) (n:Nat) (p:Pos):Option (Int×Int):=if p.instr=n then some (dP (L.ins n) p.qty ((qB (L.ins n) (L.und (L.ins n).under) L.day).1 - (L.ins n).mark)) else .none
def dI (L:aI) (n:Nat):aI×Int :=
 if (qB (L.ins n) (L.und (L.ins n).under) L.day).2=0 then
  if (qB (L.ins n) (L.und (L.ins n).under) L.day).1<=100000000000000 then
   if (dw (gU L n) (fun _=>L.cZ n) 0 L.au L).2=0 then
    ({ (dw (gU L n) (fun _=>L.cZ n) 0 L.au L).1 with af:=L.af.set n { L.ins n with mark:=(qB (L.ins n) (L.und (L.ins n).under) L.day).1 } },0)
   else (aI.none,(dw (gU L n) (fun _=>L.cZ n) 0 L.au L).2)
  else (aI.none,4)
 else (aI.none,(qB (L.ins n) (L.und (L.ins n).under) L.day).2)
def fK:Nat->List Ins->aI->aI×Int
 | _,[],L=>(L,0)
 | n,i::r,L=>if i.aJ=0\/L.day<=i.aJ then (if (dI L n).2=0 then fK (n+1) r (dI L n).1 else (aI.none,(dI L n).2)) else fK (n+1) r L
def mJ (day:Int) (i:Ins):Bool:=decide (i.aJ≠day\/day=0)
def jT (L:aI):yx :=
 if L.day<100000 then
  if (fK 0 L.af L).2=0 then
   ⟨{ (fK 0 L.af L).1 with day:=L.day+1,au:=L.au.filter (fun p=>mJ L.day (L.ins p.instr)),orders:=[],aN:=[],aG:=List.replicate L.af.length 0 },L.day+1,0⟩
  else .no (fK 0 L.af L).2
 else .no 41
def Jv (L:aI) (u x:Int) (p:Pos):Option (Int×Int):=if (L.ins p.instr).under=u/\(L.ins p.instr).kind=1 then some (dP (L.ins p.instr) p.qty x) else .none
def mZ (L:aI) (u x:Int):yx :=
 if 0<=u/\u<L.ah.length then
  if 0<=x/\x<=1000000000000 then
   if (dw (Jv L u x) (fun p=>L.cZ p.instr) 0 L.au L).2=0 then ⟨(dw (Jv L u x) (fun p=>L.cZ p.instr) 0 L.au L).1,u,0⟩
   else .no (dw (Jv L u x) (fun p=>L.cZ p.instr) 0 L.au L).2
  else .no 1
 else .no 31
def ig (num den v:Int):Int×Int:=ji v den num 0
def dB (num den q:Int):Int×Int :=
 if (ji q num den 2).2=0 then (if -1000000000<=(ji q num den 2).1/\(ji q num den 2).1<=1000000000 then ((ji q num den 2).1,0) else (0,36)) else (0,(ji q num den 2).2)
def rG (num den:Int) (i:Ins):Ins:={ i with strike:=(ig num den i.strike).1,mark:=(ig num den i.mark).1 }
noncomputable def yK (num den:Int) (ah:Nat) (i:Ins) (q:Int):Int :=
 if (ig num den i.strike).2=0 then
  if (ig num den i.mark).2=0 then
   if (rG num den i).Ok ah then (dB num den q).2 else 37
  else (ig num den i.mark).2
 else (ig num den i.strike).2
noncomputable def gK (u num den:Int) (ah:Nat):List Ins->List Int->Int
 | i::r,q::s=>if i.under=u then (if yK num den ah i q=0 then gK u num den ah r s else yK num den ah i q) else gK u num den ah r s
 | _,_=>0
def gW (u num den:Int) (l:List Ins):List Ins:=l.map fun i=>if i.under=u then rG num den i else i
def fE (u num den:Int) (l:List Ins) (qs:List Int):List Int:=List.zipWith (fun i q=>if i.under=u then (dB num den q).1 else q) l qs
def qx (num den:Int) (i:Ins) (q:Int):Int×Int :=
 if (dP i q i.mark).2=0 then
  if (dB num den q).2=0 then
   if (dP i (dB num den q).1 (ig num den i.mark).1).2=0 then fH (dP i q i.mark).1 (dP i (dB num den q).1 (ig num den i.mark).1).1
   else (0,(dP i (dB num den q).1 (ig num den i.mark).1).2)
  else (0,(dB num den q).2)
 else (0,(dP i q i.mark).2)
def aI.over (L:aI) (u:Int) (n:Int):Bool:=decide ((L.ins n).under=u)
def nK (L:aI) (u num den:Int) (p:Pos):Option (Int×Int):=if L.over u p.instr=true then some (qx num den (L.ins p.instr) p.qty) else .none
def bD (L:aI) (u num den:Int) (l:List Pos):List Pos:=l.map fun p=>if L.over u p.instr=true then { p with qty:=(dB num den p.qty).1 } else p
def jZ (L:aI) (u num den:Int):List Pos->Int
 | []=>0
 | p::r=>if L.over u p.instr=true then (if (dB num den p.qty).2=0 then jZ L u num den r else (dB num den p.qty).2) else jZ L u num den r
def aI.split (L:aI) (u num den:Int):aI:={ L with ah:=L.ah.set u.toNat { L.und u with price:=(ig num den (L.und u).price).1 },af:=gW u num den L.af,aG:=fE u num den L.af L.aG }
noncomputable def fG (L:aI) (u num den:Int):yx :=
 if 0<=u/\u<L.ah.length then
  if 1<=num/\num<=1000/\1<=den/\den<=1000 then
   if (ig num den (L.und u).price).2=0 then
    if dY.Ok { L.und u with price:=(ig num den (L.und u).price).1 } L.aS.length then
     if gK u num den L.ah.length L.af L.aG=0 then
      if (dw (nK L u num den) (fun p=>L.cZ p.instr) 1 L.au (L.split u num den)).2=0 then
       if jZ L u num den L.aN=0 then
        ⟨{ (dw (nK L u num den) (fun p=>L.cZ p.instr) 1 L.au (L.split u num den)).1 with au:=(bD L u num den L.au).filter (fun p=>decide (p.qty≠0)),aN:=(bD L u num den L.aN).filter (fun p=>decide (0<p.qty)),orders:=L.orders.filter (fun o=>!L.over u o.instr) },u,0⟩
       else .no (jZ L u num den L.aN)
      else .no (dw (nK L u num den) (fun p=>L.cZ p.instr) 1 L.au (L.split u num den)).2
     else .no (gK u num den L.ah.length L.af L.aG)
    else .no 37
   else .no (ig num den (L.und u).price).2
  else .no 1
 else .no 31
structure dX (L M:aI):Prop where
 day:M.day=L.day
 aS:M.aS=L.aS
 ah:M.ah=L.ah
 af:M.af=L.af
 au:M.au=L.au
 orders:M.orders=L.orders
 aG:M.aG=L.aG
 aN:M.aN=L.aN
 ai:M.ai.map (fun a=>(a.parent,a.flag,a.last,a.aT.length))=L.ai.map fun a=>(a.parent,a.flag,a.last,a.aT.length)
 fits:(∀ a∈L.ai,∀ x∈a.aT,aO x=true)->∀ a∈M.ai,∀ x∈a.aT,aO x=true
theorem dX.rfl {L:aI}:dX L L:=⟨.refl _,.refl _,.refl _,.refl _,.refl _,.refl _,.refl _,.refl _,.refl _,fun h=>h⟩
theorem dX.trans {L M N:aI} (h:dX L M) (k:dX M N):dX L N :=
 ⟨k.day.trans h.day,k.aS.trans h.aS,k.ah.trans h.ah,k.af.trans h.af,k.au.trans h.au,k.orders.trans h.orders,k.aG.trans h.aG,k.aN.trans h.aN,k.ai.trans h.ai,fun x=>k.fits (h.fits x)⟩
theorem oK (L:aI) (a c x:Int) (ha:0<=a/\a<L.ai.length) (hx:aO x=true):dX L (L.dh a c x):=by
 have hA:=getD_at L.ai a.toNat ⟨-1,[],false,0⟩ (by omega);refine⟨.refl _,.refl _,.refl _,.refl _,.refl _,.refl _,.refl _,.refl _,rM _ _ _ ⟨-1,[],false,0⟩ _ (by omega) ?_,fun h b hb y hy=>?_⟩
 ·show (_,_,_,_)=(_,_,_,_)
  simp[aI.acc]
 rcases List.mem_or_eq_of_mem_set hb with hb|hb
 ·exact h b hb y hy
 subst hb;rcases List.mem_or_eq_of_mem_set hy with hy|hy
 ·exact h _ (List.mem_of_getElem? hA) y hy
 rw[hy];exact hx
theorem uq {a b:Int} (h:(dQ a b).2=0):aO (dQ a b).1=true:=by
 unfold dQ at h ⊢
 split at h
 ·rename_i h4;rw[if_pos h4];exact h4.2.2
 cases h
theorem uV {a b:Int} (h:(fH a b).2=0):aO (fH a b).1=true:=by
 unfold fH at h ⊢
 split at h
 ·rename_i h4;rw[if_pos h4];exact h4.2.2
 cases h
theorem mX {L:aI} {c x f t:Int} (hf:0<=f/\f<L.ai.length) (ht:0<=t/\t<L.ai.length) (h:(fJ L c x f t).2=0):dX L (fJ L c x f t).1:=by
 unfold fJ at h ⊢
 split at h
 ·rename_i h1;rw[if_pos h1]
  split at h
  ·rename_i h2;rw[if_pos h2];have k:=oK L f c _ hf (uV h1);exact k.trans (oK _ t c _ ⟨ht.1,by simpa [aI.dh] using ht.2⟩ (uq h2))
  rename_i h2;exact absurd h h2
 rename_i h1;exact absurd h h1
theorem dX.len {L M:aI} (h:dX L M):M.ai.length=L.ai.length:=by
 have:=congrArg List.length h.ai
 simpa using this
theorem kz {f:Pos->Option (Int×Int)} {c:Pos->Int} {frm:Int}:∀ {ps:List Pos} {L:aI} (hf:0<=frm/\frm<L.ai.length) (hp:∀ p∈ps,0<=p.ak/\p.ak<L.ai.length)
 (h:(dw f c frm ps L).2=0),dX L (dw f c frm ps L).1
 | [],L,hf,hp,h=>dX.rfl
 | p::r,L,hf,hp,h=>by
   unfold dw at h ⊢
   cases hq:f p with
   | none =>
     rw[hq] at h;exact kz hf (fun q hq=>hp q (List.mem_cons_of_mem _ hq)) h
   | some x =>
     rw[hq] at h
     simp only at h ⊢
     by_cases h1:x.2=0
     ·rw[if_pos h1] at h ⊢;by_cases h2:(fJ L (c p) x.1 frm p.ak).2=0
      ·rw[if_pos h2] at h ⊢;have k:=mX hf (hp p (List.mem_cons_self ..)) h2;exact k.trans (kz (by rw[k.len];exact hf) (fun q hq=>by rw[k.len];exact hp q (List.mem_cons_of_mem _ hq)) h)
      rw[if_neg h2] at h;exact absurd h h2
     rw[if_neg h1] at h;exact absurd h h1
theorem dX.good {L M:aI} (h:dX L M) (g:L.Good):M.Good:=by
 have hp:M.ai.map (·.parent)=L.ai.map (·.parent):=by
  have:=congrArg (List.map (fun x:Int×Bool×Int×Nat=>x.1)) h.ai
  simpa [List.map_map,Function.comp_def] using this
 have T:=g.things;refine⟨by rw[h.day];exact g.d0,by rw[h.day];exact g.d1,⟨by rw[h.aS];exact T.c0,by rw[h.aS];exact T.c1,by rw[h.ah];exact T.u1,by rw[h.af];exact T.i1,by rw[h.aS];exact T.aS,by rw[h.ah,h.aS];exact T.ah,by rw[h.ah];exact T.names,by rw[h.af,h.ah];exact T.af⟩,
  ⟨by rw[hp];exact g.accounts.tree,fun v a ha=>?_⟩,by rw[h.au,h.len,h.af];exact g.au,by rw[h.orders,h.len,h.af];exact g.orders,by rw[h.aG,h.aN,h.len,h.af];exact g.aN,fun o ho a ha=>?_⟩
 ·obtain⟨b,hb,e⟩:=uK h.ai ha;obtain⟨o1,o2,o3,o4,o5⟩:=g.accounts.ai v b hb
  simp only[Prod.mk.injEq] at e
  obtain⟨e1,e2,e3,e4⟩:=e;exact⟨by rw[h.aS,<-e4];exact o1,by rw[<-e3];exact o2,by rw[<-e3];exact o3,fun hv=>by rw[<-e2,<-e3];exact o4 hv,fun x hx=>h.fits (fun a ha x hx=>by
   obtain⟨n,hn⟩:=List.getElem?_of_mem ha;exact (g.accounts.ai n a hn).2.2.2.2 x hx) a (List.mem_of_getElem? ha) x hx⟩
 obtain⟨b,hb,e⟩:=uK h.ai ha
 simp only[Prod.mk.injEq] at e
 rw[h.orders] at ho;have:=g.ids o ho b hb;rw[e.2.2.1] at this;exact this
theorem IL {L:aI} (h:L.Good) {n:Nat} (hn:n<L.af.length):(L.ins n).Ok L.ah.length:=by
 have:L.af[n]?=some (L.ins n):=getD_at L.af n _ hn;exact h.things.af _ (List.mem_of_getElem? this)
theorem Ar {L:aI} (h:L.Good) {n:Nat} (hn:n<L.af.length) :
 (qB (L.ins n) (L.und (L.ins n).under) L.day).2=0/\0<=(qB (L.ins n) (L.und (L.ins n).under) L.day).1:=by
 have hi:=IL h hn;have hu:=h.yt (n:=(L.ins n).under) hi.1 hi.2.1;obtain⟨_,_,_,p0,p1,v0,v1⟩:=hu;obtain⟨x,e,a,b⟩:=Em hi (L.und (L.ins n).under).price (L.und (L.ins n).under).di L.day (by omega) (by omega) v0 (by omega) h.d0 h.d1;unfold qB;rw[if_pos ⟨⟨by omega,p1⟩,v0,v1⟩,e];exact⟨rfl,a⟩
theorem JF {L:aI} (h:L.Good) {n:Nat} {x:Int} (h0:0<=x) (h1:x<=100000000000000):aI.Good { L with af:=L.af.set n { L.ins n with mark:=x } }:=by
 by_cases hn:n<L.af.length
 ·have T:=h.things;obtain⟨x1,x2,x3,x4,_,_,x5⟩:=IL h hn;refine⟨h.d0,h.d1,⟨T.c0,T.c1,T.u1,by simpa using T.i1,T.aS,T.ah,T.names,?_⟩,⟨h.accounts.tree,h.accounts.ai⟩,by simpa using h.au,by simpa using h.orders,by simpa using h.aN,h.ids⟩;intro i hi;rcases List.mem_or_eq_of_mem_set hi with hi|hi
  ·exact T.af i hi
  rw[hi];exact⟨x1,x2,x3,x4,h0,h1,x5⟩
 rw[List.set_eq_of_length_le (by omega)];exact h
theorem l9 {L:aI} (h:L.Good):(0:Int)<L.ai.length:=by
 have h2:2<=L.ai.length:=by simpa using h.accounts.tree.lo
 omega
structure jK (L M:aI):Prop where
 good:M.Good
 day:M.day=L.day
 aS:M.aS=L.aS
 ah:M.ah=L.ah
 af:M.af.map Ins.noMark=L.af.map Ins.noMark
 au:M.au=L.au
 orders:M.orders=L.orders
 aG:M.aG=L.aG
 aN:M.aN=L.aN
 ai:M.ai.map (fun a=>(a.parent,a.flag,a.last,a.aT.length))=L.ai.map fun a=>(a.parent,a.flag,a.last,a.aT.length)
theorem jK.trans {L M N:aI} (h:jK L M) (k:jK M N):jK L N :=
 ⟨k.good,k.day.trans h.day,k.aS.trans h.aS,k.ah.trans h.ah,k.af.trans h.af,k.au.trans h.au,k.orders.trans h.orders,k.aG.trans h.aG,k.aN.trans h.aN,k.ai.trans h.ai⟩
theorem nJ {L:aI} (h:L.Good) {n:Nat} (hn:n<L.af.length) (he:(dI L n).2=0):jK L (dI L n).1:=by
 obtain⟨n1,n2⟩:=Ar h hn;unfold dI at he ⊢;rw[if_pos n1] at he ⊢;by_cases h1:(qB (L.ins n) (L.und (L.ins n).under) L.day).1<=100000000000000
 ·rw[if_pos h1] at he ⊢;by_cases h2:(dw (gU L n) (fun _=>L.cZ n) 0 L.au L).2=0
  ·rw[if_pos h2];have k:=kz (f:=gU L n) (c:=fun _=>L.cZ n) (frm:=0) (ps:=L.au) (L:=L) ⟨Int.le_refl _,l9 h⟩ (fun p hp=>by
    obtain⟨a1,a2,_⟩:=h.au.all p hp;omega) h2
   have g:=JF (k.good h) (n:=n) n2 h1;have ei:(dw (gU L n) (fun _=>L.cZ n) 0 L.au L).1.ins n=L.ins n:=by unfold aI.ins;rw[k.af]
   rw[ei,k.af] at g;exact⟨g,k.day,k.aS,k.ah,rM _ _ _ ⟨0,0,0,0,0,false,0⟩ _ hn rfl,k.au,k.orders,k.aG,k.aN,k.ai⟩
  rw[if_neg h2] at he;exact absurd he h2
 rw[if_neg h1] at he;exact absurd he (by decide)
theorem qi:∀ {r:List Ins} {n:Nat} {L:aI} (h:L.Good) (hn:n+r.length<=L.af.length) (he:(fK n r L).2=0),jK L (fK n r L).1
 | [],n,L,h,hn,he=>⟨h,rfl,rfl,rfl,rfl,rfl,rfl,rfl,rfl,rfl⟩
 | i::r,n,L,h,hn,he=>by
   rw[List.length_cons] at hn;unfold fK at he ⊢;by_cases h1:i.aJ=0\/L.day<=i.aJ
   ·rw[if_pos h1] at he ⊢;by_cases h2:(dI L n).2=0
    ·rw[if_pos h2] at he ⊢;have k:=nJ h (by omega) h2;have e:(dI L n).1.af.length=L.af.length:=by have:=congrArg List.length k.af;simpa using this
     exact k.trans (qi k.good (by omega) he)
    rw[if_neg h2] at he;exact absurd he h2
   rw[if_neg h1] at he ⊢;exact qi h (by omega) he
theorem jC.filter {ps:List Pos} {a i:Nat} (h:jC ps a i) (f:Pos->Bool):jC (ps.filter f) a i :=
 ⟨Nat.le_trans (List.length_filter_le ..) h.len,fun p hp=>h.all p (List.mem_filter.1 hp).1,h.rise.sub Pos.Lt.trans List.filter_sublist⟩
theorem gJ.filter {ps:List Ord} {a i:Nat} (h:gJ ps a i) (f:Ord->Bool):gJ (ps.filter f) a i :=
 ⟨Nat.le_trans (List.length_filter_le ..) h.len,fun p hp=>h.all p (List.mem_filter.1 hp).1,h.rise.sub Ord.Lt.trans List.filter_sublist⟩
theorem zH {α:Type} {lt:α->α->Prop}:iF lt []:=fun i a b ha=>by simp at ha
theorem yV {L:aI} (h:L.Good) (he:(jT L).err=0):(jT L).led.Good:=by
 unfold jT at he ⊢;by_cases h1:L.day<100000
 ·rw[if_pos h1] at he ⊢;by_cases h2:(fK 0 L.af L).2=0
  ·rw[if_pos h2];have k:=qi h (by simp) h2;have g:=k.good;have T:=g.things;have e:(fK 0 L.af L).1.af.length=L.af.length:=by have:=congrArg List.length k.af;simpa using this
   have P:=g.au;rw[k.au] at P;refine⟨by have:=h.d0;show 0<=L.day+1;omega,by show L.day+1<=100000;omega,⟨T.c0,T.c1,T.u1,T.i1,T.aS,T.ah,T.names,T.af⟩,⟨g.accounts.tree,g.accounts.ai⟩,P.filter _,⟨Nat.zero_le _,by simp,zH⟩,⟨by simp[e],Nat.zero_le _,?_,by simp,zH⟩,by simp⟩;intro q hq;rw[(List.mem_replicate.1 hq).2];decide
  rw[if_neg h2] at he;exact absurd he h2
 rw[if_neg h1] at he;exact absurd (uM he) (by decide)
theorem yY {L:aI} (h:L.Good) {u x:Int} (he:(mZ L u x).err=0):(mZ L u x).led.Good:=by
 unfold mZ at he ⊢;by_cases h1:0<=u/\u<L.ah.length
 ·rw[if_pos h1] at he ⊢;by_cases h2:0<=x/\x<=1000000000000
  ·rw[if_pos h2] at he ⊢;by_cases h3:(dw (Jv L u x) (fun p=>L.cZ p.instr) 0 L.au L).2=0
   ·rw[if_pos h3];exact (kz ⟨Int.le_refl _,l9 h⟩ (fun p hp=>by
     obtain⟨a1,a2,_⟩:=h.au.all p hp;omega) h3).good h
   rw[if_neg h3] at he;exact absurd he h3
  rw[if_neg h2] at he;exact absurd (uM he) (by decide)
 rw[if_neg h1] at he;exact absurd (uM he) (by decide)
theorem Pz (q:Nat):0<=(kK q false).1:=by
 unfold kK;by_cases h:4611686018427387904<q
 ·rw[if_pos h];exact Int.le_refl 0
 rw[if_neg h];exact Int.natCast_nonneg _
theorem IW {a b c m:Int} (ha:0<=a) (hb:0<=b) (hc:0<=c):0<=(ji a b c m).1:=by
 unfold ji
 split
 ·exact Int.le_refl _
 split
 ·exact Int.le_refl _
 have e:Du a b c=false:=by unfold Du;rw[decide_eq_false (by omega:¬ a<0),decide_eq_false (by omega:¬ b<0),decide_eq_false (by omega:¬ c<0)];rfl
 rw[e];exact Pz _
theorem uT (num den q:Int):-1000000000<=(dB num den q).1/\(dB num den q).1<=1000000000:=by
 unfold dB
 split
 ·split
  ·assumption
  exact⟨by show (-1000000000:Int)<=0;decide,by show (0:Int)<=1000000000;decide⟩
 exact⟨by show (-1000000000:Int)<=0;decide,by show (0:Int)<=1000000000;decide⟩
theorem Ic {num den q:Int} (h0:0<=q) (h1:1<=num) (h2:1<=den):0<=(dB num den q).1:=by
 unfold dB
 split
 ·split
  ·exact IW h0 (by omega) (by omega)
  exact Int.le_refl 0
 exact Int.le_refl 0
theorem xw {u num den:Int} {m:Nat}:∀ {l:List Ins} {qs:List Int},l.length=qs.length->gK u num den m l qs=0->∀ i∈l,i.under=u->(rG num den i).Ok m
 | [],qs,hl,h,i,hi,e=>by cases hi
 | x::r,[],hl,h,i,hi,e=>by simp at hl
 | x::r,q::s,hl,h,i,hi,e=>by
   unfold gK at h;rcases List.mem_cons.1 hi with hi|hi
   ·subst hi;rw[if_pos e] at h
    split at h
    ·rename_i h1;unfold yK at h1
     split at h1
     ·split at h1
      ·split at h1
       ·assumption
       exact absurd h1 (by decide)
      rename_i h2;exact absurd h1 h2
     rename_i h2;exact absurd h1 h2
    rename_i h2;exact absurd h h2
   have hl':r.length=s.length:=by simpa using hl
   split at h
   ·split at h
    ·exact xw hl' h i hi e
    rename_i h2;exact absurd h h2
   exact xw hl' h i hi e
theorem yS {u num den:Int}:∀ {l:List Ins} {qs:List Int} {x:Int},x∈fE u num den l qs->∃ q∈qs,x=q\/x=(dB num den q).1
 | [],qs,x,h=>by simp[fE] at h
 | i::r,[],x,h=>by simp[fE] at h
 | i::r,q::s,x,h=>by
   unfold fE at h;rw[List.zipWith_cons_cons] at h;rcases List.mem_cons.1 h with h|h
   ·refine⟨q,List.mem_cons_self ..,?_⟩;rw[h]
    split
    ·exact Or.inr rfl
    exact Or.inl rfl
   obtain⟨y,hy,e⟩:=yS (l:=r) (qs:=s) h;exact⟨y,List.mem_cons_of_mem _ hy,e⟩
theorem yh {L:aI} (h:L.Good) {u num den:Int} (hu:0<=u/\u<L.ah.length) (hn:1<=num) (hd:1<=den)
 (hok:dY.Ok { L.und u with price:=(ig num den (L.und u).price).1 } L.aS.length) (hi:gK u num den L.ah.length L.af L.aG=0):(L.split u num den).Good:=by
 have T:=h.things;have el:(gW u num den L.af).length=L.af.length:=by simp[gW]
 have hm:(L.ah.set u.toNat { L.und u with price:=(ig num den (L.und u).price).1 }).map (·.name)=L.ah.map (·.name):=rM _ _ _ ⟨⟨#[]⟩,0,0,0⟩ _ (by omega) rfl;refine⟨h.d0,h.d1,⟨T.c0,T.c1,by simpa [aI.split] using T.u1,by simpa [aI.split,el] using T.i1,T.aS,OQ T.ah hok,?_,?_⟩,⟨h.accounts.tree,h.accounts.ai⟩,
  by show jC L.au L.ai.length (gW u num den L.af).length;rw[el];exact h.au,by show gJ L.orders L.ai.length (gW u num den L.af).length;rw[el];exact h.orders,?_,h.ids⟩
 ·intro n k a b hk ha hb;obtain⟨a',ha',ea⟩:=uK hm ha;obtain⟨b',hb',eb⟩:=uK hm hb;have:=T.names n k a' b' hk ha' hb';rw[ea,eb] at this;exact this
 ·intro i hi';have hi2:i∈gW u num den L.af:=hi';unfold gW at hi2;obtain⟨x,hx,rfl⟩:=List.mem_map.1 hi2
  show Ins.Ok _ (L.ah.set _ _).length
  rw[List.length_set]
  split
  ·rename_i e;exact xw h.aN.len.symm hi x hx e
  exact T.af x hx
 refine⟨?_,h.aN.Dl,?_,?_,h.aN.rise⟩
 ·show (fE u num den L.af L.aG).length=(gW u num den L.af).length
  rw[el];simp[fE,h.aN.len]
 ·intro x hx;obtain⟨q,hq,e⟩:=yS (show x∈fE u num den L.af L.aG from hx);obtain⟨q0,q1⟩:=h.aN.aG q hq;rcases e with e|e
  ·rw[e];exact⟨q0,q1⟩
  rw[e];exact⟨Ic q0 hn hd,(uT _ _ _).2⟩
 show ∀ x∈L.aN,2<=x.ak/\x.ak<L.ai.length/\0<=x.instr/\x.instr<(gW u num den L.af).length/\_
 rw[el];exact h.aN.all
theorem uj {L:aI} {u num den:Int} {l:List Pos} {p:Pos} (h:p∈bD L u num den l):∃ p'∈l,p.ak=p'.ak/\p.instr=p'.instr/\(p.qty=p'.qty\/p.qty=(dB num den p'.qty).1):=by
 unfold bD at h;obtain⟨x,hx,rfl⟩:=List.mem_map.1 h;refine⟨x,hx,?_⟩
 split
 ·exact⟨rfl,rfl,Or.inr rfl⟩
 exact⟨rfl,rfl,Or.inl rfl⟩
theorem rC {L:aI} {u num den:Int} {l:List Pos} (h:iF Pos.Lt l):iF Pos.Lt (bD L u num den l):=by
 intro n a b ha hb;unfold bD at ha hb;rw[List.getElem?_map] at ha hb
 cases hx:l[n]? with
 | none=>rw[hx] at ha;cases ha
 | some x =>
   cases hy:l[n+1]? with
   | none=>rw[hy] at hb;cases hb
   | some y =>
     rw[hx] at ha;rw[hy] at hb;have:=h n x y hx hy
     simp only[Option.map_some,Option.some.injEq] at ha hb
     subst ha hb;unfold Pos.Lt at *
     split <;> split <;> exact this
theorem wB {L:aI} (h:L.Good) {u num den:Int} (he:(fG L u num den).err=0):(fG L u num den).led.Good:=by
 unfold fG at he ⊢;by_cases h1:0<=u/\u<L.ah.length
 ·rw[if_pos h1] at he ⊢;by_cases h2:1<=num/\num<=1000/\1<=den/\den<=1000
  ·rw[if_pos h2] at he ⊢;by_cases h3:(ig num den (L.und u).price).2=0
   ·rw[if_pos h3] at he ⊢;by_cases h4:dY.Ok { L.und u with price:=(ig num den (L.und u).price).1 } L.aS.length
    ·rw[if_pos h4] at he ⊢;by_cases h5:gK u num den L.ah.length L.af L.aG=0
     ·rw[if_pos h5] at he ⊢;by_cases h6:(dw (nK L u num den) (fun p=>L.cZ p.instr) 1 L.au (L.split u num den)).2=0
      ·rw[if_pos h6] at he ⊢;by_cases h7:jZ L u num den L.aN=0
       ·rw[if_pos h7];have g0:=yh h h1 h2.1 h2.2.2.1 h4 h5;have k:=kz (f:=nK L u num den) (c:=fun p=>L.cZ p.instr) (frm:=1) (ps:=L.au) (L:=L.split u num den) ⟨by decide,by
         have h2:2<=L.ai.length:=by simpa using h.accounts.tree.lo
         show (1:Int)<L.ai.length
         omega⟩ (fun p hp=>by
         obtain⟨a1,a2,_⟩:=h.au.all p hp;exact⟨by omega,a2⟩) h6
        have g:=k.good g0;have T:=g.things;have P:=g.au;have O:=g.orders;have Q:=g.aN;rw[k.au] at P;rw[k.orders] at O;rw[k.aG,k.aN] at Q;have D:=g.ids;rw[k.orders] at D;refine⟨g.d0,g.d1,⟨T.c0,T.c1,T.u1,T.i1,T.aS,T.ah,T.names,T.af⟩,⟨g.accounts.tree,g.accounts.ai⟩,⟨?_,?_,?_⟩,O.filter _,⟨by rw[<-k.aG] at Q;exact Q.len,?_,by rw[<-k.aG] at Q;exact Q.aG,?_,?_⟩,?_⟩
        ·exact Nat.le_trans (List.length_filter_le ..) (by simpa [bD] using h.au.len)
        ·intro p hp;obtain⟨m,hq⟩:=List.mem_filter.1 hp;obtain⟨x,hx,e1,e2,e3⟩:=uj m;obtain⟨a1,a2,a3,a4,a5,a6,a7⟩:=P.all x hx;have hs:=uT num den x.qty;refine⟨by rw[e1];exact a1,by rw[e1];exact a2,by rw[e2];exact a3,by rw[e2];exact a4,by simpa using hq,?_,?_⟩ <;> rcases e3 with e3|e3 <;> rw[e3] <;> omega
        ·exact (rC h.au.rise).sub Pos.Lt.trans List.filter_sublist
        ·exact Nat.le_trans (List.length_filter_le ..) (by simpa [bD] using h.aN.Dl)
        ·intro p hp;obtain⟨m,hq⟩:=List.mem_filter.1 hp;obtain⟨x,hx,e1,e2,e3⟩:=uj m;obtain⟨a1,a2,a3,a4,a5,a6⟩:=Q.all x hx;have hs:=uT num den x.qty;have hq':0<p.qty:=by simpa using hq
         refine⟨by rw[e1];exact a1,by rw[e1];exact a2,by rw[e2];exact a3,by rw[e2];exact a4,by omega,?_⟩;rcases e3 with e3|e3 <;> rw[e3] <;> omega
        ·exact (rC h.aN.rise).sub Pos.Lt.trans List.filter_sublist
        intro o ho a ha;exact D o (List.mem_filter.1 ho).1 a ha
       rw[if_neg h7] at he;exact absurd he h7
      rw[if_neg h6] at he;exact absurd he h6
     rw[if_neg h5] at he;exact absurd he h5
    rw[if_neg h4] at he;exact absurd (uM he) (by decide)
   rw[if_neg h3] at he;exact absurd he h3
  rw[if_neg h2] at he;exact absurd (uM he) (by decide)
 rw[if_neg h1] at he;exact absurd (uM he) (by decide)
def aI.kM (L:aI) (a c:Int):Prop:=(0<=a/\a<L.ai.length)/\0<=c/\c<(L.acc a).aT.length
theorem Bh {L:aI} {a c x v:Int} (ha:0<=a/\a<L.ai.length) (hv:0<=v) :
 (L.dh a c x).acc v=if a=v then { L.acc a with aT:=(L.acc a).aT.set c.toNat x } else L.acc v:=by
 unfold aI.dh
 show (L.ai.set a.toNat _).getD v.toNat _=_
 rw[List.getD_eq_getElem?_getD,List.getElem?_set];by_cases e:a=v
 ·subst e;rw[if_pos rfl,if_pos (by omega),if_pos rfl];rfl
 rw[if_neg (by omega),if_neg e];unfold aI.acc;rw[List.getD_eq_getElem?_getD]
theorem aI.kM.set {L:aI} {a c x b d:Int} (h:L.kM b d) (ha:0<=a/\a<L.ai.length):(L.dh a c x).kM b d:=by
 obtain⟨h1,h2,h3⟩:=h;refine⟨⟨h1.1,by simpa [aI.dh] using h1.2⟩,h2,?_⟩;rw[Bh ha h1.1];by_cases e:a=b
 ·subst e;rw[if_pos rfl];simpa using h3
 rw[if_neg e];exact h3
theorem dX.has {L M:aI} (h:dX L M) {a c:Int} (k:L.kM a c):M.kM a c:=by
 obtain⟨k1,k2,k3⟩:=k;refine⟨by rw[h.len];exact k1,k2,?_⟩;have hA:=getD_at M.ai a.toNat ⟨-1,[],false,0⟩ (by rw[h.len];omega);obtain⟨b,hb,e⟩:=uK h.ai hA;have hB:=getD_at L.ai a.toNat ⟨-1,[],false,0⟩ (by omega);rw[hb] at hB;cases hB
 simp only[Prod.mk.injEq] at e
 show c<(M.ai.getD a.toNat _).aT.length
 rw[<-e.2.2.2];exact k3
theorem aI.Good.has {L:aI} (h:L.Good) {a c:Int} (ha:0<=a/\a<L.ai.length) (hc:0<=c/\c<L.aS.length):L.kM a c:=by
 refine⟨ha,hc.1,?_⟩;have hA:=getD_at L.ai a.toNat ⟨-1,[],false,0⟩ (by omega);have:=(h.accounts.ai _ _ hA).1
 show c<(L.ai.getD a.toNat _).aT.length
 rw[this];exact hc.2
theorem aI.Good.kS {L:aI} (h:L.Good) {n:Int} (h0:0<=n) (h1:n<L.af.length):0<=L.cZ n/\L.cZ n<L.aS.length:=by
 have hi:=h.Gg h0 h1;have hu:=h.yt hi.1 hi.2.1;exact⟨hu.2.1,hu.2.2.1⟩
theorem aI.Good.two {L:aI} (h:L.Good):(1:Int)<L.ai.length:=by
 have h2:2<=L.ai.length:=by simpa using h.accounts.tree.lo
 omega
theorem aI.kM.ai {L M:aI} (e:M.ai=L.ai) {a c:Int} (h:L.kM a c):M.kM a c:=by
 unfold aI.kM aI.acc at *;rw[e];exact h
theorem jK.len {L M:aI} (h:jK L M):M.ai.length=L.ai.length:=by
 have:=congrArg List.length h.ai
 simpa using this
end Go.Bw
namespace Go.Proofs.YtcepekniflaoaaaGreatDoor
open Go.RowKit Go.Bw Go.Maps Go.Shelf Go.Bw.Fall
def pG:aI:=⟨0,[⟨1000000,0⟩],[⟨⟨#[65]⟩,0,101,0⟩],[⟨1,0,1,0,0,false,101⟩],[⟨-1,[0],false,0⟩,⟨-1,[0],false,0⟩,⟨-1,[1000],false,0⟩],[⟨2,0,5⟩],[],[0],[]⟩
def uF:aI:=⟨0,[⟨1000000,0⟩],[⟨⟨#[65]⟩,0,67,0⟩],[⟨1,0,1,0,0,false,67⟩],[⟨-1,[0],false,0⟩,⟨-1,[-36],false,0⟩,⟨-1,[1036],false,0⟩],[⟨2,0,7⟩],[],[0],[]⟩
def yG:aI:=⟨0,[⟨1000000,0⟩],[⟨⟨#[65]⟩,0,101,0⟩],[⟨1,0,1,0,0,false,101⟩],[⟨-1,[-20],false,0⟩,⟨-1,[0],false,0⟩,⟨-1,[1020],false,0⟩],[⟨2,0,5⟩],[],[0],[]⟩
theorem Gt {α:Type} {x:α} {n:Nat} {y:α} (h:[x][n]?=some y):n=0/\y=x:=by
 have h1:=(List.getElem?_eq_some_iff.1 h).1;have:n=0:=by simpa using h1
 subst this;exact⟨rfl,by simpa using h.symm⟩
theorem xW {α:Type} {lt:α->α->Prop} {l:List α} (h:l.length<=1):iF lt l:=fun i a b ha hb=>by
 have:=(List.getElem?_eq_some_iff.1 hb).1;omega
theorem sO:pG.Good:=by
 refine⟨by decide,by decide,⟨by decide,by decide,by decide,by decide,?_,?_,?_,?_⟩,⟨⟨by decide,by decide,?_⟩,?_⟩,⟨by decide,?_,xW (by decide)⟩,⟨by decide,by simp[pG],xW (by decide)⟩,⟨by decide,by decide,?_,?_,xW (by decide)⟩,by simp[pG]⟩
 ·intro n c hc;obtain⟨rfl,rfl⟩:=Gt hc;exact⟨by decide,by decide,by decide,by decide,fun _=>rfl⟩
 ·intro n c hc;obtain⟨rfl,rfl⟩:=Gt hc;exact⟨by decide,by decide,by decide,by decide,by decide,by decide,by decide⟩
 ·intro n k u v hk hu;obtain⟨rfl,rfl⟩:=Gt hu;omega
 ·intro i hi
  simp only[pG,List.mem_cons,List.not_mem_nil,or_false] at hi
  subst hi;exact⟨by decide,by decide,by decide,by decide,by decide,by decide,Or.inl (by decide)⟩
 ·intro v p hp
  left
  have:=List.mem_of_getElem? hp
  simpa [pG] using this
 ·intro v a ha
  match v,ha with
  | 0,ha=>cases ha;exact⟨rfl,by decide,by decide,fun _=>⟨rfl,rfl⟩,by decide⟩
  | 1,ha=>cases ha;exact⟨rfl,by decide,by decide,fun _=>⟨rfl,rfl⟩,by decide⟩
  | 2,ha=>cases ha;exact⟨rfl,by decide,by decide,fun h=>by omega,by decide⟩
  | v+3,ha=>simp[pG] at ha
 ·intro p hp
  simp only[pG,List.mem_cons,List.not_mem_nil,or_false] at hp
  subst hp;exact⟨by decide,by decide,by decide,by decide,by decide,by decide,by decide⟩
 ·intro q hq
  simp only[pG,List.mem_cons,List.not_mem_nil,or_false] at hq
  subst hq;decide
 intro x hx;simp[pG] at hx
theorem sN:mZ pG 0 4=⟨yG,0,0⟩:=by
 unfold mZ;rw[if_pos (by decide),if_pos (by decide),if_pos (by decide +kernel)];have:(dw (Jv pG 0 4) (fun p=>pG.cZ p.instr) 0 pG.au pG).1=yG:=by kernel_rfl
 rw[this]
theorem nT:fG pG 0 3 2=⟨uF,0,0⟩:=by
 unfold fG;rw[if_pos (by decide),if_pos (by decide),if_pos (by decide +kernel),if_pos ⟨by decide +kernel,by decide,by decide,by decide +kernel,by decide +kernel,by decide,by decide⟩,if_pos ?_,if_pos (by decide +kernel),if_pos (by decide +kernel)]
 ·have:(dw (nK pG 0 3 2) (fun p=>pG.cZ p.instr) 1 pG.au (pG.split 0 3 2)).1={ uF with au:=pG.au }:=by kernel_rfl
  rw[this];have e1:(bD pG 0 3 2 pG.au).filter (fun p=>decide (p.qty≠0))=uF.au:=by kernel_rfl
  have e2:(bD pG 0 3 2 pG.aN).filter (fun p=>decide (0<p.qty))=uF.aN:=by kernel_rfl
  rw[e1,e2];rfl
 show gK 0 3 2 1 [⟨1,0,1,0,0,false,101⟩] [0]=0
 unfold gK;have e:yK 3 2 1 ⟨1,0,1,0,0,false,101⟩ 0=0:=by
  unfold yK;rw[if_pos (by decide +kernel),if_pos (by decide +kernel),if_pos ⟨by decide,by decide,by decide,by decide,by decide +kernel,by decide +kernel,Or.inl ⟨by decide,by decide +kernel,by decide,by decide⟩⟩];decide +kernel
 rw[if_pos rfl,if_pos e];rfl
theorem Fh:jU uF=some uF:=by kernel_rfl
theorem Fj:jU yG=some yG:=by kernel_rfl
theorem Jy:uF.Good:=by
 have:=wB sO (u:=0) (num:=3) (den:=2) (by rw[nT]);rw[nT] at this;exact this
theorem Jz:yG.Good:=by
 have:=yY sO (u:=0) (x:=4) (by rw[sN]);rw[sN] at this;exact this
theorem Fp:jD pG (fG pG 0 3 2)=(uF,0,0):=by
 have hf:=mW Jy Fh;rw[sH sO (by rw[nT]) (by rw[nT,hf]),nT,hf]
theorem LH:jD pG (mZ pG 0 4)=(yG,0,0):=by
 have hf:=mW Jz Fj;rw[sH sO (by rw[sN]) (by rw[sN,hf]),sN,hf]
end Go.Proofs.YtcepekniflaoaaaGreatDoor
namespace Go.Proofs.YtcepekniflaoaaaGreatDoor
open Go.RowKit Go.Bw Go.Maps Go.Shelf
theorem DJ {i:Ins} {q v:Int} (hq:aO q=true):kC [q,i.mult,v] 1=dP i q v:=by
 have h1:eU 1 q=(q,0):=by rw[lG,Int.one_mul,if_pos ⟨rfl,hq,hq⟩]
 unfold kC;rw[h1]
 simp only[ne_eq,not_true_eq_false,if_false]
 unfold kC dP;by_cases h2:(eU q i.mult).2=0
 ·rw[if_neg (fun h=>h h2),if_pos h2];unfold kC;by_cases h3:(eU (eU q i.mult).1 v).2=0
  ·rw[if_neg (fun h=>h h3)];unfold kC;exact Prod.ext rfl h3.symm
  rw[if_pos h3];rcases jc (eU q i.mult).1 v with e|e
  ·exact absurd e.1 h3
  rw[e]
 rw[if_pos h2,if_neg h2]
end Go.Proofs.YtcepekniflaoaaaGreatDoor
