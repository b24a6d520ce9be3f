/- Joined: LifP, LifQ, LifR, LifT, LifS, LifU, LifV, LifW, LifX, LifE, LifY. -/
import Derived.Test.YtfknkmlocbojhaaGreatDoorGm
import Derived.Test.YtfknkmlocbojhaaGreatDoorGn
import Derived.Test.YtfknkmlocbojhaaGreatDoorGc
set_option linter.unusedVariables false
set_option linter.unusedSimpArgs false
namespace Go.Bw
open Classical
def aI.none:aI:=⟨0,[],[],[],[],[],[],[],[]⟩
def aI.aK (L:aI) (a c:Int):Int:=(L.acc a).aK.getD c.toNat 0
def aI.dS (L:aI) (a c x:Int):aI:={ L with ai:=L.ai.set a.toNat { L.acc a with aK:=(L.acc a).aK.set c.toNat x } }
def gW (L:aI) (c x f t:Int):aI×Int :=
 if (iU (L.aK f c) x).2=0 then
  if (fQ ((L.dS f c (iU (L.aK f c) x).1).aK t c) x).2=0 then
   ((L.dS f c (iU (L.aK f c) x).1).dS t c (fQ ((L.dS f c (iU (L.aK f c) x).1).aK t c) x).1,0)
  else (aI.none,(fQ ((L.dS f c (iU (L.aK f c) x).1).aK t c) x).2)
 else (aI.none,(iU (L.aK f c) x).2)
def dA (f:Pos->Option (Int×Int)) (c:Pos->Int) (frm:Int):List Pos->aI->aI×Int
 | [],L=>(L,0)
 | p::r,L=>match f p with
   | .none=>dA f c frm r L
   | .some x=>if x.2=0 then (if (gW L (c p) x.1 frm p.aJ).2=0 then dA f c frm r (gW L (c p) x.1 frm p.aJ).1 else (aI.none,(gW L (c p) x.1 frm p.aJ).2)) else (aI.none,x.2)
def aI.bK (L:aI) (n:Int):Int:=(L.und (L.ins n).under).cur
def dH (i:Ins) (q v:Int):Int×Int:=if (gB q i.mult).2=0 then gB (gB q i.mult).1 v else (0,(gB q i.mult).2)
def iD (L:aI) (n:Nat) (p:Pos):Option (Int×Int):=if p.instr=n then some (dH (L.ins n) p.qty ((pX (L.ins n) (L.und (L.ins n).under) L.day).1 - (L.ins n).mark)) else .none
def dG (L:aI) (n:Nat):aI×Int :=
 if (pX (L.ins n) (L.und (L.ins n).under) L.day).2=0 then
  if (pX (L.ins n) (L.und (L.ins n).under) L.day).1<=100000000000000 then
   if (dA (iD L n) (fun _=>L.bK n) 0 L.aC L).2=0 then
    ({ (dA (iD L n) (fun _=>L.bK n) 0 L.aC L).1 with af:=L.af.set n { L.ins n with mark:=(pX (L.ins n) (L.und (L.ins n).under) L.day).1 } },0)
   else (aI.none,(dA (iD L n) (fun _=>L.bK n) 0 L.aC L).2)
  else (aI.none,4)
 else (aI.none,(pX (L.ins n) (L.und (L.ins n).under) L.day).2)
def fC:Nat->List Ins->aI->aI×Int
 | _,[],L=>(L,0)
 | n,i::r,L=>if i.aO=0\/L.day<=i.aO then (if (dG L n).2=0 then fC (n+1) r (dG L n).1 else (aI.none,(dG L n).2)) else fC (n+1) r L
def ja (day:Int) (i:Ins):Bool:=decide (i.aO≠day\/day=0)
def jq (L:aI):xZ :=
 if L.day<100000 then
  if (fC 0 L.af L).2=0 then
   ⟨{ (fC 0 L.af L).1 with day:=L.day+1,aC:=L.aC.filter (fun p=>ja L.day (L.ins p.instr)),orders:=[],aP:=[],aH:=List.replicate L.af.length 0 },L.day+1,0⟩
  else .no (fC 0 L.af L).2
 else .no 41
def Fz (L:aI) (u x:Int) (p:Pos):Option (Int×Int):=if (L.ins p.instr).under=u/\(L.ins p.instr).kind=1 then some (dH (L.ins p.instr) p.qty x) else .none
def jW (L:aI) (u x:Int):xZ :=
 if 0<=u/\u<L.ah.length then
  if 0<=x/\x<=1000000000000 then
   if (dA (Fz L u x) (fun p=>L.bK p.instr) 0 L.aC L).2=0 then ⟨(dA (Fz L u x) (fun p=>L.bK p.instr) 0 L.aC L).1,u,0⟩
   else .no (dA (Fz L u x) (fun p=>L.bK p.instr) 0 L.aC L).2
  else .no 1
 else .no 31
noncomputable def jB (L:aI) (u:Int) (s:ByteArray):xZ :=
 if 0<=u/\u<L.ah.length then
  if nameB s=true/\∀ x∈L.ah,x.name≠s then ⟨{ L with ah:=L.ah.set u.toNat { L.und u with name:=s } },u,0⟩ else .no 42
 else .no 31
def gU (num den v:Int):Int×Int:=kN v den num 0
def dL (num den q:Int):Int×Int :=
 if (kN q num den 2).2=0 then (if -1000000000<=(kN q num den 2).1/\(kN q num den 2).1<=1000000000 then ((kN q num den 2).1,0) else (0,36)) else (0,(kN q num den 2).2)
def rU (num den:Int) (i:Ins):Ins:={ i with strike:=(gU num den i.strike).1,mark:=(gU num den i.mark).1 }
noncomputable def zQ (num den:Int) (ah:Nat) (i:Ins) (q:Int):Int :=
 if (gU num den i.strike).2=0 then
  if (gU num den i.mark).2=0 then
   if (rU num den i).Ok ah then (dL num den q).2 else 37
  else (gU num den i.mark).2
 else (gU num den i.strike).2
noncomputable def gX (u num den:Int) (ah:Nat):List Ins->List Int->Int
 | i::r,q::s=>if i.under=u then (if zQ num den ah i q=0 then gX u num den ah r s else zQ num den ah i q) else gX u num den ah r s
 | _,_=>0
def gq (u num den:Int) (l:List Ins):List Ins:=l.map fun i=>if i.under=u then rU num den i else i
def gI (u num den:Int) (l:List Ins) (qs:List Int):List Int:=List.zipWith (fun i q=>if i.under=u then (dL num den q).1 else q) l qs
def oh (num den:Int) (i:Ins) (q:Int):Int×Int :=
 if (dH i q i.mark).2=0 then
  if (dL num den q).2=0 then
   if (dH i (dL num den q).1 (gU num den i.mark).1).2=0 then iU (dH i q i.mark).1 (dH i (dL num den q).1 (gU num den i.mark).1).1
   else (0,(dH i (dL num den q).1 (gU num den i.mark).1).2)
  else (0,(dL num den q).2)
 else (0,(dH i q i.mark).2)
def aI.over (L:aI) (u:Int) (n:Int):Bool:=decide ((L.ins n).under=u)
def jr (L:aI) (u num den:Int) (p:Pos):Option (Int×Int):=if L.over u p.instr=true then some (oh num den (L.ins p.instr) p.qty) else .none
def bg (L:aI) (u num den:Int) (l:List Pos):List Pos:=l.map fun p=>if L.over u p.instr=true then { p with qty:=(dL num den p.qty).1 } else p
def jY (L:aI) (u num den:Int):List Pos->Int
 | []=>0
 | p::r=>if L.over u p.instr=true then (if (dL num den p.qty).2=0 then jY L u num den r else (dL num den p.qty).2) else jY L u num den r
def aI.split (L:aI) (u num den:Int):aI:={ L with ah:=L.ah.set u.toNat { L.und u with price:=(gU num den (L.und u).price).1 },af:=gq u num den L.af,aH:=gI u num den L.af L.aH }
noncomputable def dD (L:aI) (u num den:Int):xZ :=
 if 0<=u/\u<L.ah.length then
  if 1<=num/\num<=1000/\1<=den/\den<=1000 then
   if (gU num den (L.und u).price).2=0 then
    if fU.Ok { L.und u with price:=(gU num den (L.und u).price).1 } L.aT.length then
     if gX u num den L.ah.length L.af L.aH=0 then
      if (dA (jr L u num den) (fun p=>L.bK p.instr) 1 L.aC (L.split u num den)).2=0 then
       if jY L u num den L.aP=0 then
        ⟨{ (dA (jr L u num den) (fun p=>L.bK p.instr) 1 L.aC (L.split u num den)).1 with aC:=(bg L u num den L.aC).filter (fun p=>decide (p.qty≠0)),aP:=(bg L u num den L.aP).filter (fun p=>decide (0<p.qty)),orders:=L.orders.filter (fun o=>!L.over u o.instr) },u,0⟩
       else .no (jY L u num den L.aP)
      else .no (dA (jr L u num den) (fun p=>L.bK p.instr) 1 L.aC (L.split u num den)).2
     else .no (gX u num den L.ah.length L.af L.aH)
    else .no 37
   else .no (gU num den (L.und u).price).2
  else .no 1
 else .no 31
structure fH (L M:aI):Prop where
 day:M.day=L.day
 aT:M.aT=L.aT
 ah:M.ah=L.ah
 af:M.af=L.af
 aC:M.aC=L.aC
 orders:M.orders=L.orders
 aH:M.aH=L.aH
 aP:M.aP=L.aP
 ai:M.ai.map (fun a=>(a.parent,a.flag,a.last,a.aK.length))=L.ai.map fun a=>(a.parent,a.flag,a.last,a.aK.length)
 fits:(∀ a∈L.ai,∀ x∈a.aK,bf x=true)->∀ a∈M.ai,∀ x∈a.aK,bf x=true
theorem fH.rfl {L:aI}:fH L L:=⟨.refl _,.refl _,.refl _,.refl _,.refl _,.refl _,.refl _,.refl _,.refl _,fun h=>h⟩
theorem fH.trans {L M N:aI} (h:fH L M) (k:fH M N):fH L N :=
 ⟨k.day.trans h.day,k.aT.trans h.aT,k.ah.trans h.ah,k.af.trans h.af,k.aC.trans h.aC,k.orders.trans h.orders,k.aH.trans h.aH,k.aP.trans h.aP,k.ai.trans h.ai,fun x=>k.fits (h.fits x)⟩
theorem sD (L:aI) (a c x:Int) (ha:0<=a/\a<L.ai.length) (hx:bf x=true):fH L (L.dS a c x):=by
 have hA:=getD_at L.ai a.toNat ⟨-1,[],false,0⟩ (by omega);refine⟨.refl _,.refl _,.refl _,.refl _,.refl _,.refl _,.refl _,.refl _,sU _ _ _ ⟨-1,[],false,0⟩ _ (by omega) ?_,fun h b hb y hy=>?_⟩
 ·show (_,_,_,_)=(_,_,_,_)
  simp[aI.acc]
 rcases List.mem_or_eq_of_mem_set hb with hb|hb
 ·exact h b hb y hy
 subst hb;rcases List.mem_or_eq_of_mem_set hy with hy|hy
 ·exact h _ (List.mem_of_getElem? hA) y hy
 rw[hy];exact hx
theorem Ag {a b:Int} (h:(fQ a b).2=0):bf (fQ a b).1=true:=by
 unfold fQ at h ⊢
 split at h
 ·rename_i h4;rw[if_pos h4];exact h4.2.2
 cases h
theorem vT {a b:Int} (h:(iU a b).2=0):bf (iU a b).1=true:=by
 unfold iU at h ⊢
 split at h
 ·rename_i h4;rw[if_pos h4];exact h4.2.2
 cases h
theorem l9 {L:aI} {c x f t:Int} (hf:0<=f/\f<L.ai.length) (ht:0<=t/\t<L.ai.length) (h:(gW L c x f t).2=0):fH L (gW L c x f t).1:=by
 unfold gW at h ⊢
 split at h
 ·rename_i h1;rw[if_pos h1]
  split at h
  ·rename_i h2;rw[if_pos h2];have k:=sD L f c _ hf (vT h1);exact k.trans (sD _ t c _ ⟨ht.1,by simpa [aI.dS] using ht.2⟩ (Ag h2))
  rename_i h2;exact absurd h h2
 rename_i h1;exact absurd h h1
theorem fH.len {L M:aI} (h:fH L M):M.ai.length=L.ai.length:=by
 have:=congrArg List.length h.ai
 simpa using this
theorem iP {f:Pos->Option (Int×Int)} {c:Pos->Int} {frm:Int}:∀ {ps:List Pos} {L:aI} (hf:0<=frm/\frm<L.ai.length) (hp:∀ p∈ps,0<=p.aJ/\p.aJ<L.ai.length)
 (h:(dA f c frm ps L).2=0),fH L (dA f c frm ps L).1
 | [],L,hf,hp,h=>fH.rfl
 | p::r,L,hf,hp,h=>by
   unfold dA at h ⊢
   cases hq:f p with
   | none =>
     rw[hq] at h;exact iP hf (fun q hq=>hp q (List.mem_cons_of_mem _ hq)) h
   | some x =>
     rw[hq] at h
     simp only at h ⊢
     by_cases h1:x.2=0
     ·rw[if_pos h1] at h ⊢;by_cases h2:(gW L (c p) x.1 frm p.aJ).2=0
      ·rw[if_pos h2] at h ⊢;have k:=l9 hf (hp p (List.mem_cons_self ..)) h2;exact k.trans (iP (by rw[k.len];exact hf) (fun q hq=>by rw[k.len];exact hp q (List.mem_cons_of_mem _ hq)) h)
      rw[if_neg h2] at h;exact absurd h h2
     rw[if_neg h1] at h;exact absurd h h1
theorem fH.good {L M:aI} (h:fH L M) (g:L.Good):M.Good:=by
 have hp:M.ai.map (·.parent)=L.ai.map (·.parent):=by
  have:=congrArg (List.map (fun x:Int×Bool×Int×Nat=>x.1)) h.ai
  simpa [List.map_map,Function.comp_def] using this
 have T:=g.things;refine⟨by rw[h.day];exact g.d0,by rw[h.day];exact g.d1,⟨by rw[h.aT];exact T.c0,by rw[h.aT];exact T.c1,by rw[h.ah];exact T.u1,by rw[h.af];exact T.i1,by rw[h.aT];exact T.aT,by rw[h.ah,h.aT];exact T.ah,by rw[h.ah];exact T.names,by rw[h.af,h.ah];exact T.af⟩,
  ⟨by rw[hp];exact g.accounts.tree,fun v a ha=>?_⟩,by rw[h.aC,h.len,h.af];exact g.aC,by rw[h.orders,h.len,h.af];exact g.orders,by rw[h.aH,h.aP,h.len,h.af];exact g.aP,fun o ho a ha=>?_⟩
 ·obtain⟨b,hb,e⟩:=vH h.ai ha;obtain⟨o1,o2,o3,o4,o5⟩:=g.accounts.ai v b hb
  simp only[Prod.mk.injEq] at e
  obtain⟨e1,e2,e3,e4⟩:=e;exact⟨by rw[h.aT,<-e4];exact o1,by rw[<-e3];exact o2,by rw[<-e3];exact o3,fun hv=>by rw[<-e2,<-e3];exact o4 hv,fun x hx=>h.fits (fun a ha x hx=>by
   obtain⟨n,hn⟩:=List.getElem?_of_mem ha;exact (g.accounts.ai n a hn).2.2.2.2 x hx) a (List.mem_of_getElem? ha) x hx⟩
 obtain⟨b,hb,e⟩:=vH h.ai ha
 simp only[Prod.mk.injEq] at e
 rw[h.orders] at ho;have:=g.ids o ho b hb;rw[e.2.2.1] at this;exact this
theorem KO {L:aI} (h:L.Good) {n:Nat} (hn:n<L.af.length):(L.ins n).Ok L.ah.length:=by
 have:L.af[n]?=some (L.ins n):=getD_at L.af n _ hn;exact h.things.af _ (List.mem_of_getElem? this)
theorem xX {L:aI} (h:L.Good) {n:Nat} (hn:n<L.af.length) :
 (pX (L.ins n) (L.und (L.ins n).under) L.day).2=0/\0<=(pX (L.ins n) (L.und (L.ins n).under) L.day).1:=by
 have hi:=KO h hn;have hu:=h.Eo (n:=(L.ins n).under) hi.1 hi.2.1;obtain⟨_,_,_,p0,p1,v0,v1⟩:=hu;obtain⟨x,e,a,b⟩:=Ip hi (L.und (L.ins n).under).price (L.und (L.ins n).under).dI L.day (by omega) (by omega) v0 (by omega) h.d0 h.d1;unfold pX;rw[if_pos ⟨⟨by omega,p1⟩,v0,v1⟩,e];exact⟨rfl,a⟩
theorem Nv {L:aI} (h:L.Good) {n:Nat} {x:Int} (h0:0<=x) (h1:x<=100000000000000):aI.Good { L with af:=L.af.set n { L.ins n with mark:=x } }:=by
 by_cases hn:n<L.af.length
 ·have T:=h.things;obtain⟨x1,x2,x3,x4,_,_,x5⟩:=KO h hn;refine⟨h.d0,h.d1,⟨T.c0,T.c1,T.u1,by simpa using T.i1,T.aT,T.ah,T.names,?_⟩,⟨h.accounts.tree,h.accounts.ai⟩,by simpa using h.aC,by simpa using h.orders,by simpa using h.aP,h.ids⟩;intro i hi;rcases List.mem_or_eq_of_mem_set hi with hi|hi
  ·exact T.af i hi
  rw[hi];exact⟨x1,x2,x3,x4,h0,h1,x5⟩
 rw[List.set_eq_of_length_le (by omega)];exact h
theorem nN {L:aI} (h:L.Good):(0:Int)<L.ai.length:=by
 have h2:2<=L.ai.length:=by simpa using h.accounts.tree.lo
 omega
structure jS (L M:aI):Prop where
 good:M.Good
 day:M.day=L.day
 aT:M.aT=L.aT
 ah:M.ah=L.ah
 af:M.af.map Ins.noMark=L.af.map Ins.noMark
 aC:M.aC=L.aC
 orders:M.orders=L.orders
 aH:M.aH=L.aH
 aP:M.aP=L.aP
 ai:M.ai.map (fun a=>(a.parent,a.flag,a.last,a.aK.length))=L.ai.map fun a=>(a.parent,a.flag,a.last,a.aK.length)
theorem jS.trans {L M N:aI} (h:jS L M) (k:jS M N):jS L N :=
 ⟨k.good,k.day.trans h.day,k.aT.trans h.aT,k.ah.trans h.ah,k.af.trans h.af,k.aC.trans h.aC,k.orders.trans h.orders,k.aH.trans h.aH,k.aP.trans h.aP,k.ai.trans h.ai⟩
theorem ku {L:aI} (h:L.Good) {n:Nat} (hn:n<L.af.length) (he:(dG L n).2=0):jS L (dG L n).1:=by
 obtain⟨n1,n2⟩:=xX h hn;unfold dG at he ⊢;rw[if_pos n1] at he ⊢;by_cases h1:(pX (L.ins n) (L.und (L.ins n).under) L.day).1<=100000000000000
 ·rw[if_pos h1] at he ⊢;by_cases h2:(dA (iD L n) (fun _=>L.bK n) 0 L.aC L).2=0
  ·rw[if_pos h2];have k:=iP (f:=iD L n) (c:=fun _=>L.bK n) (frm:=0) (ps:=L.aC) (L:=L) ⟨Int.le_refl _,nN h⟩ (fun p hp=>by
    obtain⟨a1,a2,_⟩:=h.aC.all p hp;omega) h2
   have g:=Nv (k.good h) (n:=n) n2 h1;have ei:(dA (iD L n) (fun _=>L.bK n) 0 L.aC L).1.ins n=L.ins n:=by unfold aI.ins;rw[k.af]
   rw[ei,k.af] at g;exact⟨g,k.day,k.aT,k.ah,sU _ _ _ ⟨0,0,0,0,0,false,0⟩ _ hn rfl,k.aC,k.orders,k.aH,k.aP,k.ai⟩
  rw[if_neg h2] at he;exact absurd he h2
 rw[if_neg h1] at he;exact absurd he (by decide)
theorem nX:∀ {r:List Ins} {n:Nat} {L:aI} (h:L.Good) (hn:n+r.length<=L.af.length) (he:(fC n r L).2=0),jS L (fC n r L).1
 | [],n,L,h,hn,he=>⟨h,rfl,rfl,rfl,rfl,rfl,rfl,rfl,rfl,rfl⟩
 | i::r,n,L,h,hn,he=>by
   rw[List.length_cons] at hn;unfold fC at he ⊢;by_cases h1:i.aO=0\/L.day<=i.aO
   ·rw[if_pos h1] at he ⊢;by_cases h2:(dG L n).2=0
    ·rw[if_pos h2] at he ⊢;have k:=ku h (by omega) h2;have e:(dG L n).1.af.length=L.af.length:=by have:=congrArg List.length k.af;simpa using this
     exact k.trans (nX k.good (by omega) he)
    rw[if_neg h2] at he;exact absurd he h2
   rw[if_neg h1] at he ⊢;exact nX h (by omega) he
theorem pG.filter {ps:List Pos} {a i:Nat} (h:pG ps a i) (f:Pos->Bool):pG (ps.filter f) a i :=
 ⟨Nat.le_trans (List.length_filter_le ..) h.len,fun p hp=>h.all p (List.mem_filter.1 hp).1,h.rise.sub Pos.Lt.trans List.filter_sublist⟩
theorem kR.filter {ps:List Ord} {a i:Nat} (h:kR ps a i) (f:Ord->Bool):kR (ps.filter f) a i :=
 ⟨Nat.le_trans (List.length_filter_le ..) h.len,fun p hp=>h.all p (List.mem_filter.1 hp).1,h.rise.sub Ord.Lt.trans List.filter_sublist⟩
theorem Cc {α:Type} {lt:α->α->Prop}:jC lt []:=fun i a b ha=>by simp at ha
theorem Ap {L:aI} (h:L.Good) (he:(jq L).err=0):(jq L).led.Good:=by
 unfold jq at he ⊢;by_cases h1:L.day<100000
 ·rw[if_pos h1] at he ⊢;by_cases h2:(fC 0 L.af L).2=0
  ·rw[if_pos h2];have k:=nX h (by simp) h2;have g:=k.good;have T:=g.things;have e:(fC 0 L.af L).1.af.length=L.af.length:=by have:=congrArg List.length k.af;simpa using this
   have P:=g.aC;rw[k.aC] at P;refine⟨by have:=h.d0;show 0<=L.day+1;omega,by show L.day+1<=100000;omega,⟨T.c0,T.c1,T.u1,T.i1,T.aT,T.ah,T.names,T.af⟩,⟨g.accounts.tree,g.accounts.ai⟩,P.filter _,⟨Nat.zero_le _,by simp,Cc⟩,⟨by simp[e],Nat.zero_le _,?_,by simp,Cc⟩,by simp⟩;intro q hq;rw[(List.mem_replicate.1 hq).2];decide
  rw[if_neg h2] at he;exact absurd he h2
 rw[if_neg h1] at he;exact absurd (iw he) (by decide)
theorem vk {L:aI} (h:L.Good) {u x:Int} (he:(jW L u x).err=0):(jW L u x).led.Good:=by
 unfold jW at he ⊢;by_cases h1:0<=u/\u<L.ah.length
 ·rw[if_pos h1] at he ⊢;by_cases h2:0<=x/\x<=1000000000000
  ·rw[if_pos h2] at he ⊢;by_cases h3:(dA (Fz L u x) (fun p=>L.bK p.instr) 0 L.aC L).2=0
   ·rw[if_pos h3];exact (iP ⟨Int.le_refl _,nN h⟩ (fun p hp=>by
     obtain⟨a1,a2,_⟩:=h.aC.all p hp;omega) h3).good h
   rw[if_neg h3] at he;exact absurd he h3
  rw[if_neg h2] at he;exact absurd (iw he) (by decide)
 rw[if_neg h1] at he;exact absurd (iw he) (by decide)
theorem yT {L:aI} (h:L.Good) {u:Int} {s:ByteArray} (he:(jB L u s).err=0):(jB L u s).led.Good:=by
 unfold jB at he ⊢;by_cases h1:0<=u/\u<L.ah.length
 ·rw[if_pos h1] at he ⊢;by_cases h2:nameB s=true/\∀ x∈L.ah,x.name≠s
  ·rw[if_pos h2];have T:=h.things;have ok:=T.ah u.toNat (L.und u) (getD_at L.ah u.toNat _ (by omega));refine⟨h.d0,h.d1,⟨T.c0,T.c1,by simpa using T.u1,T.i1,T.aT,Kw T.ah ⟨h2.1,ok.2⟩,?_,by simpa using T.af⟩,⟨h.accounts.tree,h.accounts.ai⟩,h.aC,h.orders,h.aP,h.ids⟩;intro n k a b hk ha hb
   simp only[List.getElem?_set] at ha hb
   split at ha
   ·rw[if_neg (by omega)] at hb
    split at ha
    ·cases ha;exact fun e=>h2.2 b (List.mem_of_getElem? hb) e
    cases ha
   split at hb
   ·split at hb
    ·cases hb;exact fun e=>h2.2 a (List.mem_of_getElem? ha) e.symm
    cases hb
   exact T.names n k a b hk ha hb
  rw[if_neg h2] at he;exact absurd (iw he) (by decide)
 rw[if_neg h1] at he;exact absurd (iw he) (by decide)
theorem Tj (q:Nat):0<=(lF q false).1:=by
 unfold lF;by_cases h:4611686018427387904<q
 ·rw[if_pos h];exact Int.le_refl 0
 rw[if_neg h];exact Int.natCast_nonneg _
theorem KT {a b c m:Int} (ha:0<=a) (hb:0<=b) (hc:0<=c):0<=(kN a b c m).1:=by
 unfold kN
 split
 ·exact Int.le_refl _
 split
 ·exact Int.le_refl _
 have e:GZ a b c=false:=by unfold GZ;rw[decide_eq_false (by omega:¬ a<0),decide_eq_false (by omega:¬ b<0),decide_eq_false (by omega:¬ c<0)];rfl
 rw[e];exact Tj _
theorem vP (num den q:Int):-1000000000<=(dL num den q).1/\(dL num den q).1<=1000000000:=by
 unfold dL
 split
 ·split
  ·assumption
  exact⟨by show (-1000000000:Int)<=0;decide,by show (0:Int)<=1000000000;decide⟩
 exact⟨by show (-1000000000:Int)<=0;decide,by show (0:Int)<=1000000000;decide⟩
theorem JY {num den q:Int} (h0:0<=q) (h1:1<=num) (h2:1<=den):0<=(dL num den q).1:=by
 unfold dL
 split
 ·split
  ·exact KT h0 (by omega) (by omega)
  exact Int.le_refl 0
 exact Int.le_refl 0
theorem yD {u num den:Int} {m:Nat}:∀ {l:List Ins} {qs:List Int},l.length=qs.length->gX u num den m l qs=0->∀ i∈l,i.under=u->(rU num den i).Ok m
 | [],qs,hl,h,i,hi,e=>by cases hi
 | x::r,[],hl,h,i,hi,e=>by simp at hl
 | x::r,q::s,hl,h,i,hi,e=>by
   unfold gX at h;rcases List.mem_cons.1 hi with hi|hi
   ·subst hi;rw[if_pos e] at h
    split at h
    ·rename_i h1;unfold zQ at h1
     split at h1
     ·split at h1
      ·split at h1
       ·assumption
       exact absurd h1 (by decide)
      rename_i h2;exact absurd h1 h2
     rename_i h2;exact absurd h1 h2
    rename_i h2;exact absurd h h2
   have hl':r.length=s.length:=by simpa using hl
   split at h
   ·split at h
    ·exact yD hl' h i hi e
    rename_i h2;exact absurd h h2
   exact yD hl' h i hi e
theorem Ai {u num den:Int}:∀ {l:List Ins} {qs:List Int} {x:Int},x∈gI u num den l qs->∃ q∈qs,x=q\/x=(dL num den q).1
 | [],qs,x,h=>by simp[gI] at h
 | i::r,[],x,h=>by simp[gI] at h
 | i::r,q::s,x,h=>by
   unfold gI at h;rw[List.zipWith_cons_cons] at h;rcases List.mem_cons.1 h with h|h
   ·refine⟨q,List.mem_cons_self ..,?_⟩;rw[h]
    split
    ·exact Or.inr rfl
    exact Or.inl rfl
   obtain⟨y,hy,e⟩:=Ai (l:=r) (qs:=s) h;exact⟨y,List.mem_cons_of_mem _ hy,e⟩
theorem zy {L:aI} (h:L.Good) {u num den:Int} (hu:0<=u/\u<L.ah.length) (hn:1<=num) (hd:1<=den)
 (hok:fU.Ok { L.und u with price:=(gU num den (L.und u).price).1 } L.aT.length) (hi:gX u num den L.ah.length L.af L.aH=0):(L.split u num den).Good:=by
 have T:=h.things;have el:(gq u num den L.af).length=L.af.length:=by simp[gq]
 have hm:(L.ah.set u.toNat { L.und u with price:=(gU num den (L.und u).price).1 }).map (·.name)=L.ah.map (·.name):=sU _ _ _ ⟨⟨#[]⟩,0,0,0⟩ _ (by omega) rfl;refine⟨h.d0,h.d1,⟨T.c0,T.c1,by simpa [aI.split] using T.u1,by simpa [aI.split,el] using T.i1,T.aT,Kw T.ah hok,?_,?_⟩,⟨h.accounts.tree,h.accounts.ai⟩,
  by show pG L.aC L.ai.length (gq u num den L.af).length;rw[el];exact h.aC,by show kR L.orders L.ai.length (gq u num den L.af).length;rw[el];exact h.orders,?_,h.ids⟩
 ·intro n k a b hk ha hb;obtain⟨a',ha',ea⟩:=vH hm ha;obtain⟨b',hb',eb⟩:=vH hm hb;have:=T.names n k a' b' hk ha' hb';rw[ea,eb] at this;exact this
 ·intro i hi';have hi2:i∈gq u num den L.af:=hi';unfold gq at hi2;obtain⟨x,hx,rfl⟩:=List.mem_map.1 hi2
  show Ins.Ok _ (L.ah.set _ _).length
  rw[List.length_set]
  split
  ·rename_i e;exact yD h.aP.len.symm hi x hx e
  exact T.af x hx
 refine⟨?_,h.aP.Ju,?_,?_,h.aP.rise⟩
 ·show (gI u num den L.af L.aH).length=(gq u num den L.af).length
  rw[el];simp[gI,h.aP.len]
 ·intro x hx;obtain⟨q,hq,e⟩:=Ai (show x∈gI u num den L.af L.aH from hx);obtain⟨q0,q1⟩:=h.aP.aH q hq;rcases e with e|e
  ·rw[e];exact⟨q0,q1⟩
  rw[e];exact⟨JY q0 hn hd,(vP _ _ _).2⟩
 show ∀ x∈L.aP,2<=x.aJ/\x.aJ<L.ai.length/\0<=x.instr/\x.instr<(gq u num den L.af).length/\_
 rw[el];exact h.aP.all
theorem uS {L:aI} {u num den:Int} {l:List Pos} {p:Pos} (h:p∈bg L u num den l):∃ p'∈l,p.aJ=p'.aJ/\p.instr=p'.instr/\(p.qty=p'.qty\/p.qty=(dL num den p'.qty).1):=by
 unfold bg at h;obtain⟨x,hx,rfl⟩:=List.mem_map.1 h;refine⟨x,hx,?_⟩
 split
 ·exact⟨rfl,rfl,Or.inr rfl⟩
 exact⟨rfl,rfl,Or.inl rfl⟩
theorem rZ {L:aI} {u num den:Int} {l:List Pos} (h:jC Pos.Lt l):jC Pos.Lt (bg L u num den l):=by
 intro n a b ha hb;unfold bg at ha hb;rw[List.getElem?_map] at ha hb
 cases hx:l[n]? with
 | none=>rw[hx] at ha;cases ha
 | some x =>
   cases hy:l[n+1]? with
   | none=>rw[hy] at hb;cases hb
   | some y =>
     rw[hx] at ha;rw[hy] at hb;have:=h n x y hx hy
     simp only[Option.map_some,Option.some.injEq] at ha hb
     subst ha hb;unfold Pos.Lt at *
     split <;> split <;> exact this
theorem qW {L:aI} (h:L.Good) {u num den:Int} (he:(dD L u num den).err=0):(dD L u num den).led.Good:=by
 unfold dD at he ⊢;by_cases h1:0<=u/\u<L.ah.length
 ·rw[if_pos h1] at he ⊢;by_cases h2:1<=num/\num<=1000/\1<=den/\den<=1000
  ·rw[if_pos h2] at he ⊢;by_cases h3:(gU num den (L.und u).price).2=0
   ·rw[if_pos h3] at he ⊢;by_cases h4:fU.Ok { L.und u with price:=(gU num den (L.und u).price).1 } L.aT.length
    ·rw[if_pos h4] at he ⊢;by_cases h5:gX u num den L.ah.length L.af L.aH=0
     ·rw[if_pos h5] at he ⊢;by_cases h6:(dA (jr L u num den) (fun p=>L.bK p.instr) 1 L.aC (L.split u num den)).2=0
      ·rw[if_pos h6] at he ⊢;by_cases h7:jY L u num den L.aP=0
       ·rw[if_pos h7];have g0:=zy h h1 h2.1 h2.2.2.1 h4 h5;have k:=iP (f:=jr L u num den) (c:=fun p=>L.bK p.instr) (frm:=1) (ps:=L.aC) (L:=L.split u num den) ⟨by decide,by
         have h2:2<=L.ai.length:=by simpa using h.accounts.tree.lo
         show (1:Int)<L.ai.length
         omega⟩ (fun p hp=>by
         obtain⟨a1,a2,_⟩:=h.aC.all p hp;exact⟨by omega,a2⟩) h6
        have g:=k.good g0;have T:=g.things;have P:=g.aC;have O:=g.orders;have Q:=g.aP;rw[k.aC] at P;rw[k.orders] at O;rw[k.aH,k.aP] at Q;have D:=g.ids;rw[k.orders] at D;refine⟨g.d0,g.d1,⟨T.c0,T.c1,T.u1,T.i1,T.aT,T.ah,T.names,T.af⟩,⟨g.accounts.tree,g.accounts.ai⟩,⟨?_,?_,?_⟩,O.filter _,⟨by rw[<-k.aH] at Q;exact Q.len,?_,by rw[<-k.aH] at Q;exact Q.aH,?_,?_⟩,?_⟩
        ·exact Nat.le_trans (List.length_filter_le ..) (by simpa [bg] using h.aC.len)
        ·intro p hp;obtain⟨m,hq⟩:=List.mem_filter.1 hp;obtain⟨x,hx,e1,e2,e3⟩:=uS m;obtain⟨a1,a2,a3,a4,a5,a6,a7⟩:=P.all x hx;have hs:=vP num den x.qty;refine⟨by rw[e1];exact a1,by rw[e1];exact a2,by rw[e2];exact a3,by rw[e2];exact a4,by simpa using hq,?_,?_⟩ <;> rcases e3 with e3|e3 <;> rw[e3] <;> omega
        ·exact (rZ h.aC.rise).sub Pos.Lt.trans List.filter_sublist
        ·exact Nat.le_trans (List.length_filter_le ..) (by simpa [bg] using h.aP.Ju)
        ·intro p hp;obtain⟨m,hq⟩:=List.mem_filter.1 hp;obtain⟨x,hx,e1,e2,e3⟩:=uS m;obtain⟨a1,a2,a3,a4,a5,a6⟩:=Q.all x hx;have hs:=vP num den x.qty;have hq':0<p.qty:=by simpa using hq
         refine⟨by rw[e1];exact a1,by rw[e1];exact a2,by rw[e2];exact a3,by rw[e2];exact a4,by omega,?_⟩;rcases e3 with e3|e3 <;> rw[e3] <;> omega
        ·exact (rZ h.aP.rise).sub Pos.Lt.trans List.filter_sublist
        intro o ho a ha;exact D o (List.mem_filter.1 ho).1 a ha
       rw[if_neg h7] at he;exact absurd he h7
      rw[if_neg h6] at he;exact absurd he h6
     rw[if_neg h5] at he;exact absurd he h5
    rw[if_neg h4] at he;exact absurd (iw he) (by decide)
   rw[if_neg h3] at he;exact absurd he h3
  rw[if_neg h2] at he;exact absurd (iw he) (by decide)
 rw[if_neg h1] at he;exact absurd (iw he) (by decide)
def aI.fJ (L:aI) (a c:Int):Prop:=(0<=a/\a<L.ai.length)/\0<=c/\c<(L.acc a).aK.length
theorem vW {L:aI} {a c x v:Int} (ha:0<=a/\a<L.ai.length) (hv:0<=v) :
 (L.dS a c x).acc v=if a=v then { L.acc a with aK:=(L.acc a).aK.set c.toNat x } else L.acc v:=by
 unfold aI.dS
 show (L.ai.set a.toNat _).getD v.toNat _=_
 rw[List.getD_eq_getElem?_getD,List.getElem?_set];by_cases e:a=v
 ·subst e;rw[if_pos rfl,if_pos (by omega),if_pos rfl];rfl
 rw[if_neg (by omega),if_neg e];unfold aI.acc;rw[List.getD_eq_getElem?_getD]
theorem pJ {L:aI} {a c x v k:Int} (h:L.fJ a c) (hv:0<=v) (hk:0<=k) :
 (L.dS a c x).aK v k=if a=v/\c=k then x else L.aK v k:=by
 obtain⟨ha,h1,h2⟩:=h;unfold aI.aK;rw[vW ha hv];by_cases e:a=v
 ·subst e;rw[if_pos rfl]
  show ((L.acc a).aK.set c.toNat x).getD k.toNat 0=_
  rw[List.getD_eq_getElem?_getD,List.getElem?_set];by_cases e2:c=k
  ·subst e2;rw[if_pos rfl,if_pos (by omega),if_pos ⟨rfl,rfl⟩];rfl
  rw[if_neg (by omega),if_neg (fun h=>e2 h.2),List.getD_eq_getElem?_getD]
 rw[if_neg e,if_neg (fun h=>e h.1)]
theorem aI.fJ.set {L:aI} {a c x b d:Int} (h:L.fJ b d) (ha:0<=a/\a<L.ai.length):(L.dS a c x).fJ b d:=by
 obtain⟨h1,h2,h3⟩:=h;refine⟨⟨h1.1,by simpa [aI.dS] using h1.2⟩,h2,?_⟩;rw[vW ha h1.1];by_cases e:a=b
 ·subst e;rw[if_pos rfl];simpa using h3
 rw[if_neg e];exact h3
theorem Ey {a b:Int} (h:(fQ a b).2=0):(fQ a b).1=a+b:=by
 unfold fQ at h ⊢
 split at h
 ·rename_i h4;rw[if_pos h4]
 cases h
theorem Ij {a b:Int} (h:(iU a b).2=0):(iU a b).1=a - b:=by
 unfold iU at h ⊢
 split at h
 ·rename_i h4;rw[if_pos h4]
 cases h
theorem BG {L:aI} {c x f t v k:Int} (hf:L.fJ f c) (ht:L.fJ t c) (hv:0<=v) (hk:0<=k) (h:(gW L c x f t).2=0) :
 (gW L c x f t).1.aK v k=L.aK v k+(if t=v/\c=k then x else 0) - (if f=v/\c=k then x else 0):=by
 unfold gW at h ⊢
 split at h
 ·rename_i h1;rw[if_pos h1]
  split at h
  ·rename_i h2;rw[if_pos h2];have e1:=Ij h1;have e2:=Ey h2;have HT:=ht.set (x:=(iU (L.aK f c) x).1) (c:=c) hf.1
   show ((L.dS f c _).dS t c _).aK v k=_
   rw[pJ HT hv hk,e2,pJ hf hv hk,pJ hf ht.1.1 ht.2.1,e1];clear h2 HT;by_cases a0:c=k
   ·by_cases a1:t=v
    ·by_cases a2:f=v
     ·simp[a0,a1,a2] <;> omega
     simp[a0,a1,a2]
    by_cases a2:f=v
    ·simp[a0,a1,a2] <;> omega
    simp[a0,a1,a2]
   simp[a0]
  rename_i h2;exact absurd h h2
 rename_i h1;exact absurd h h1
theorem fH.has {L M:aI} (h:fH L M) {a c:Int} (k:L.fJ a c):M.fJ a c:=by
 obtain⟨k1,k2,k3⟩:=k;refine⟨by rw[h.len];exact k1,k2,?_⟩;have hA:=getD_at M.ai a.toNat ⟨-1,[],false,0⟩ (by rw[h.len];omega);obtain⟨b,hb,e⟩:=vH h.ai hA;have hB:=getD_at L.ai a.toNat ⟨-1,[],false,0⟩ (by omega);rw[hb] at hB;cases hB
 simp only[Prod.mk.injEq] at e
 show c<(M.ai.getD a.toNat _).aK.length
 rw[<-e.2.2.2];exact k3
def vK (f:Pos->Option (Int×Int)) (c:Pos->Int) (v k:Int):List Pos->Int
 | []=>0
 | p::r=>(match f p with|.none=>0|.some x=>if p.aJ=v/\c p=k then x.1 else 0)+vK f c v k r
def xY (f:Pos->Option (Int×Int)) (c:Pos->Int) (k:Int):List Pos->Int
 | []=>0
 | p::r=>(match f p with|.none=>0|.some x=>if c p=k then x.1 else 0)+xY f c k r
theorem qc {f:Pos->Option (Int×Int)} {c:Pos->Int} {frm v k:Int} (hv:0<=v) (hk:0<=k):∀ {ps:List Pos} {L:aI} (hp:∀ p∈ps,f p≠.none->L.fJ frm (c p)/\L.fJ p.aJ (c p))
 (h:(dA f c frm ps L).2=0),(dA f c frm ps L).1.aK v k=L.aK v k+vK f c v k ps - (if frm=v then xY f c k ps else 0)
 | [],L,hp,h=>by simp[dA,vK,xY]
 | p::r,L,hp,h=>by
   unfold dA vK xY at *
   cases hq:f p with
   | none =>
     rw[hq] at h;have:=qc (frm:=frm) hv hk (fun q hq=>hp q (List.mem_cons_of_mem _ hq)) h
     simp only at this ⊢
     rw[this]
     split <;> omega
   | some x =>
     rw[hq] at h
     simp only at h ⊢
     obtain⟨p1,p2⟩:=hp p (List.mem_cons_self ..) (by rw[hq];simp);by_cases h1:x.2=0
     ·rw[if_pos h1] at h ⊢;by_cases h2:(gW L (c p) x.1 frm p.aJ).2=0
      ·rw[if_pos h2] at h ⊢;have k1:=l9 p1.1 p2.1 h2;have:=qc (frm:=frm) hv hk (fun q hq hn=>⟨k1.has (hp q (List.mem_cons_of_mem _ hq) hn).1,k1.has (hp q (List.mem_cons_of_mem _ hq) hn).2⟩) h;rw[this,BG p1 p2 hv hk h2];by_cases a1:frm=v
       ·by_cases a2:c p=k
        ·simp only[a1,a2,and_true,true_and,if_true];split <;> omega
        simp only[a1,a2,and_false,if_false,if_true];omega
       simp only[a1,false_and,if_false];split <;> omega
      rw[if_neg h2] at h;exact absurd h h2
     rw[if_neg h1] at h;exact absurd h h1
def dU (L:aI) (k:Int):Nat->Int
 | 0=>0
 | n+1=>dU L k n+L.aK n k
theorem wV {L:aI} {c x f t k:Int} (hf:L.fJ f c) (ht:L.fJ t c) (hk:0<=k) (h:(gW L c x f t).2=0):∀ n:Nat,
 dU (gW L c x f t).1 k n=dU L k n+(if t<n/\c=k then x else 0) - (if f<n/\c=k then x else 0)
 | 0=>by
   rw[if_neg (fun h=>by have:=ht.1.1;omega),if_neg (fun h=>by have:=hf.1.1;omega)];rfl
 | n+1=>by
   unfold dU;rw[wV hf ht hk h n,BG hf ht (Int.natCast_nonneg n) hk h];have:=ht.1.1;have:=hf.1.1;by_cases e:c=k
   ·simp only[e,and_true]
    repeat' split
    all_goals omega
   simp only[e,and_false,if_false];omega
theorem OE {L:aI} {c x f t k:Int} (hf:L.fJ f c) (ht:L.fJ t c) (hk:0<=k) (h:(gW L c x f t).2=0) :
 dU (gW L c x f t).1 k L.ai.length=dU L k L.ai.length:=by
 rw[wV hf ht hk h];have h1:=ht.1.2;have h2:=hf.1.2;by_cases e:c=k
 ·rw[if_pos ⟨h1,e⟩,if_pos ⟨h2,e⟩];omega
 rw[if_neg (fun h=>e h.2),if_neg (fun h=>e h.2)];omega
theorem mF {f:Pos->Option (Int×Int)} {c:Pos->Int} {frm k:Int} (hk:0<=k):∀ {ps:List Pos} {L:aI} (hp:∀ p∈ps,f p≠.none->L.fJ frm (c p)/\L.fJ p.aJ (c p))
 (h:(dA f c frm ps L).2=0),dU (dA f c frm ps L).1 k L.ai.length=dU L k L.ai.length
 | [],L,hp,h=>rfl
 | p::r,L,hp,h=>by
   unfold dA at *
   cases hq:f p with
   | none =>
     rw[hq] at h;exact mF hk (fun q hq=>hp q (List.mem_cons_of_mem _ hq)) h
   | some x =>
     rw[hq] at h
     simp only at h ⊢
     obtain⟨p1,p2⟩:=hp p (List.mem_cons_self ..) (by rw[hq];simp);by_cases h1:x.2=0
     ·rw[if_pos h1] at h ⊢;by_cases h2:(gW L (c p) x.1 frm p.aJ).2=0
      ·rw[if_pos h2] at h ⊢;have k1:=l9 p1.1 p2.1 h2;have:=mF hk (fun q hq hn=>⟨k1.has (hp q (List.mem_cons_of_mem _ hq) hn).1,k1.has (hp q (List.mem_cons_of_mem _ hq) hn).2⟩) h;rw[k1.len] at this;exact this.trans (OE p1 p2 hk h2)
      rw[if_neg h2] at h;exact absurd h h2
     rw[if_neg h1] at h;exact absurd h h1
noncomputable def dZ (L:aI) (k:Nat) (u a b:Int) (s:ByteArray):xZ :=
 match k with
 | 0=>jq L
 | 1=>dD L u a b
 | 2=>jW L u a
 | _=>jB L u s
theorem lN {L:aI} (h:L.Good) {k:Nat} {u a b:Int} {s:ByteArray} (he:(dZ L k u a b s).err=0):(dZ L k u a b s).led.Good:=by
 unfold dZ at he ⊢
 split at he
 ·exact Ap h he
 ·exact qW h he
 ·exact vk h he
 exact yT h he
theorem aI.Good.has {L:aI} (h:L.Good) {a c:Int} (ha:0<=a/\a<L.ai.length) (hc:0<=c/\c<L.aT.length):L.fJ a c:=by
 refine⟨ha,hc.1,?_⟩;have hA:=getD_at L.ai a.toNat ⟨-1,[],false,0⟩ (by omega);have:=(h.accounts.ai _ _ hA).1
 show c<(L.ai.getD a.toNat _).aK.length
 rw[this];exact hc.2
theorem aI.Good.lV {L:aI} (h:L.Good) {n:Int} (h0:0<=n) (h1:n<L.af.length):0<=L.bK n/\L.bK n<L.aT.length:=by
 have hi:=h.Jq h0 h1;have hu:=h.Eo hi.1 hi.2.1;exact⟨hu.2.1,hu.2.2.1⟩
theorem aI.Good.two {L:aI} (h:L.Good):(1:Int)<L.ai.length:=by
 have h2:2<=L.ai.length:=by simpa using h.accounts.tree.lo
 omega
theorem aI.fJ.ai {L M:aI} (e:M.ai=L.ai) {a c:Int} (h:L.fJ a c):M.fJ a c:=by
 unfold aI.fJ aI.acc at *;rw[e];exact h
theorem aI.Good.pays {L:aI} (h:L.Good) {frm:Int} (hf:0<=frm/\frm<=1) {p:Pos} (hp:p∈L.aC):L.fJ frm (L.bK p.instr)/\L.fJ p.aJ (L.bK p.instr):=by
 obtain⟨a1,a2,a3,a4,_⟩:=h.aC.all p hp;have hc:=h.lV a3 a4;have:=h.two;exact⟨h.has ⟨hf.1,by omega⟩ hc,h.has ⟨by omega,a2⟩ hc⟩
theorem jl {L M:aI} (e:M.ai=L.ai) (k:Int):∀ n,dU M k n=dU L k n
 | 0=>rfl
 | n+1=>by
   unfold dU;rw[jl e k n];unfold aI.aK aI.acc;rw[e]
theorem Ej {L:aI} (h:L.Good) {n:Nat} (hn:n<L.af.length) {k:Int} (hk:0<=k) (he:(dG L n).2=0):dU (dG L n).1 k L.ai.length=dU L k L.ai.length:=by
 obtain⟨n1,n2⟩:=xX h hn;unfold dG at he ⊢;rw[if_pos n1] at he ⊢;by_cases h1:(pX (L.ins n) (L.und (L.ins n).under) L.day).1<=100000000000000
 ·rw[if_pos h1] at he ⊢;by_cases h2:(dA (iD L n) (fun _=>L.bK n) 0 L.aC L).2=0
  ·rw[if_pos h2];refine Eq.trans (jl (L:=(dA (iD L n) (fun _=>L.bK n) 0 L.aC L).1) ?_ k _) (mF hk (fun p hp hq=>?_) h2)
   ·rfl
   have e:p.instr=n:=by
    by_cases e:p.instr=n
    ·exact e
    unfold iD at hq;rw[if_neg e] at hq;exact absurd rfl hq
   have:=h.pays (frm:=0) ⟨by decide,by decide⟩ hp;rw[e] at this;exact this
  rw[if_neg h2] at he;exact absurd he h2
 rw[if_neg h1] at he;exact absurd he (by decide)
theorem jS.len {L M:aI} (h:jS L M):M.ai.length=L.ai.length:=by
 have:=congrArg List.length h.ai
 simpa using this
theorem qY {k:Int} (hk:0<=k):∀ {r:List Ins} {n:Nat} {L:aI} (h:L.Good) (hn:n+r.length<=L.af.length) (he:(fC n r L).2=0),dU (fC n r L).1 k L.ai.length=dU L k L.ai.length
 | [],n,L,h,hn,he=>rfl
 | i::r,n,L,h,hn,he=>by
   rw[List.length_cons] at hn;unfold fC at he ⊢;by_cases h1:i.aO=0\/L.day<=i.aO
   ·rw[if_pos h1] at he ⊢;by_cases h2:(dG L n).2=0
    ·rw[if_pos h2] at he ⊢;have D:=ku h (by omega) h2;have e:(dG L n).1.af.length=L.af.length:=by have:=congrArg List.length D.af;simpa using this
     have:=qY hk D.good (by omega) he;rw[D.len] at this;exact this.trans (Ej h (by omega) hk h2)
    rw[if_neg h2] at he;exact absurd he h2
   rw[if_neg h1] at he ⊢;exact qY hk h (by omega) he
theorem tX {L:aI} {u num den:Int} (he:(dD L u num den).err=0) :
 (0<=u/\u<L.ah.length)/\(1<=num/\num<=1000/\1<=den/\den<=1000)/\(gU num den (L.und u).price).2=0/\fU.Ok { L.und u with price:=(gU num den (L.und u).price).1 } L.aT.length /\
 gX u num den L.ah.length L.af L.aH=0/\(dA (jr L u num den) (fun p=>L.bK p.instr) 1 L.aC (L.split u num den)).2=0/\jY L u num den L.aP=0 /\
 dD L u num den=⟨{ (dA (jr L u num den) (fun p=>L.bK p.instr) 1 L.aC (L.split u num den)).1 with aC:=(bg L u num den L.aC).filter (fun p=>decide (p.qty≠0)),aP:=(bg L u num den L.aP).filter (fun p=>decide (0<p.qty)),orders:=L.orders.filter (fun o=>!L.over u o.instr) },u,0⟩:=by
 unfold dD at he ⊢;by_cases h1:0<=u/\u<L.ah.length
 ·rw[if_pos h1] at he ⊢;by_cases h2:1<=num/\num<=1000/\1<=den/\den<=1000
  ·rw[if_pos h2] at he ⊢;by_cases h3:(gU num den (L.und u).price).2=0
   ·rw[if_pos h3] at he ⊢;by_cases h4:fU.Ok { L.und u with price:=(gU num den (L.und u).price).1 } L.aT.length
    ·rw[if_pos h4] at he ⊢;by_cases h5:gX u num den L.ah.length L.af L.aH=0
     ·rw[if_pos h5] at he ⊢;by_cases h6:(dA (jr L u num den) (fun p=>L.bK p.instr) 1 L.aC (L.split u num den)).2=0
      ·rw[if_pos h6] at he ⊢;by_cases h7:jY L u num den L.aP=0
       ·rw[if_pos h7];exact⟨h1,h2,h3,h4,h5,h6,h7,rfl⟩
       rw[if_neg h7] at he;exact absurd he h7
      rw[if_neg h6] at he;exact absurd he h6
     rw[if_neg h5] at he;exact absurd he h5
    rw[if_neg h4] at he;exact absurd (iw he) (by decide)
   rw[if_neg h3] at he;exact absurd he h3
  rw[if_neg h2] at he;exact absurd (iw he) (by decide)
 rw[if_neg h1] at he;exact absurd (iw he) (by decide)
theorem Gw {L:aI} (h:L.Good) {k:Nat} {u a b:Int} {s:ByteArray} {c:Int} (hc:0<=c) (he:(dZ L k u a b s).err=0):dU (dZ L k u a b s).led c L.ai.length=dU L c L.ai.length:=by
 unfold dZ at he ⊢
 split at he
 ·unfold jq at he ⊢;by_cases h1:L.day<100000
  ·rw[if_pos h1] at he ⊢;by_cases h2:(fC 0 L.af L).2=0
   ·rw[if_pos h2];refine Eq.trans (jl (L:=(fC 0 L.af L).1) ?_ c _) (qY hc h (by simp) h2);rfl
   rw[if_neg h2] at he;exact absurd he h2
  rw[if_neg h1] at he;exact absurd (iw he) (by decide)
 ·obtain⟨h1,h2,h3,h4,h5,h6,h7,e⟩:=tX he
  simp only[e]
  have t:=mF (L:=L.split u a b) hc (fun p hp hq=>by
   have:=h.pays (frm:=1) ⟨by decide,by decide⟩ hp;exact⟨this.1.ai (M:=L.split u a b) rfl,this.2.ai (M:=L.split u a b) rfl⟩) h6
  have t2:dU (L.split u a b) c L.ai.length=dU L c L.ai.length:=by
   refine jl ?_ c _;rfl
  refine Eq.trans (jl (L:=(dA (jr L u a b) (fun p=>L.bK p.instr) 1 L.aC (L.split u a b)).1) ?_ c _) (Eq.trans t t2);rfl
 ·unfold jW at he ⊢;by_cases h1:0<=u/\u<L.ah.length
  ·rw[if_pos h1] at he ⊢;by_cases h2:0<=a/\a<=1000000000000
   ·rw[if_pos h2] at he ⊢;by_cases h3:(dA (Fz L u a) (fun p=>L.bK p.instr) 0 L.aC L).2=0
    ·rw[if_pos h3];exact mF hc (fun p hp hq=>h.pays (frm:=0) ⟨by decide,by decide⟩ hp) h3
    rw[if_neg h3] at he;exact absurd he h3
   rw[if_neg h2] at he;exact absurd (iw he) (by decide)
  rw[if_neg h1] at he;exact absurd (iw he) (by decide)
 unfold jB at he ⊢;by_cases h1:0<=u/\u<L.ah.length
 ·rw[if_pos h1] at he ⊢;by_cases h2:nameB s=true/\∀ x∈L.ah,x.name≠s
  ·rw[if_pos h2];refine jl ?_ c _;rfl
  rw[if_neg h2] at he;exact absurd (iw he) (by decide)
 rw[if_neg h1] at he;exact absurd (iw he) (by decide)
end Go.Bw
namespace Go.Proofs.YtfknkmlocbojhaaGreatDoor
open Go.RowKit Go.Bw Go.Maps Go.Shelf Go.Bw.Fall
theorem yx {L:aI} {r:xZ} (hr:L.Good->r.err=0->r.led.Good) (h:(dF L r).2.2=0):(dF L r).1.Good/\fK (dF L r).1=((dF L r).1,0):=by
 obtain⟨hg,he,hf,e,_⟩:=oJ h;rw[e];have g:=kL (hr hg he) hf;exact⟨g.2,kM g.2 (Dy g.1)⟩
theorem iY {L:aI} {k:Nat} {u a b:Int} {s:ByteArray} (h:(dF L (dZ L k u a b s)).2.2=0) :
 (dF L (dZ L k u a b s)).1.Good/\fK (dF L (dZ L k u a b s)).1=((dF L (dZ L k u a b s)).1,0) :=
 yx (fun hg he=>lN hg he) h
theorem sN {l m:aI} (h:gJ l=some m) (v k:Int):m.aK v k=l.aK v k:=by
 obtain⟨_,hn,hk⟩:=nZ h;unfold aI.aK aI.acc;by_cases hv:v.toNat<l.ai.length
 ·have h1:=getD_at l.ai v.toNat ⟨-1,[],false,0⟩ hv;have h2:=getD_at m.ai v.toNat ⟨-1,[],false,0⟩ (by omega);have:=congrArg Acc.aK (hk _ _ _ h1 h2)
  simp only at this
  rw[this]
 have e1:m.ai.getD v.toNat ⟨-1,[],false,0⟩=⟨-1,[],false,0⟩:=by rw[List.getD_eq_getElem?_getD,List.getElem?_eq_none (by omega)];rfl
 have e2:l.ai.getD v.toNat ⟨-1,[],false,0⟩=⟨-1,[],false,0⟩:=by rw[List.getD_eq_getElem?_getD,List.getElem?_eq_none (by omega)];rfl
 rw[e1,e2]
theorem wI {l m:aI} (h:gJ l=some m) (k:Int):∀ n,dU m k n=dU l k n
 | 0=>rfl
 | n+1=>by unfold dU;rw[wI h k n,sN h]
theorem Gv {L:aI} {k:Nat} {u a b:Int} {s:ByteArray} {c:Int} (hc:0<=c) (h:(dF L (dZ L k u a b s)).2.2=0) :
 dU (dF L (dZ L k u a b s)).1 c L.ai.length=dU L c L.ai.length:=by
 obtain⟨hg,he,hf,e,_⟩:=oJ h;rw[e,wI (kL (lN hg he) hf).1];exact Gw hg hc he
def lK (L:aI) (k:Int):Nat->Int
 | 0=>0
 | n+1=>lK L k n+L.aK n k / 2147483648
def lC (L:aI) (k:Int):Nat->Int
 | 0=>0
 | n+1=>lC L k n+L.aK n k % 2147483648
theorem halves (L:aI) (k:Int):∀ n,dU L k n=lK L k n*2147483648+lC L k n
 | 0=>rfl
 | n+1=>by
   unfold dU lK lC;rw[halves L k n];omega
theorem pW (L:aI) (k:Int):∀ n:Nat,0<=lC L k n/\lC L k n<=n*2147483648
 | 0=>⟨Int.le_refl _,Int.le_refl _⟩
 | n+1=>by
   obtain⟨h1,h2⟩:=pW L k n;unfold lC;omega
theorem Gg {L M:aI} {k:Int} {n:Nat} (h:dU M k n=dU L k n) :
 lK L k n - lK M k n+(lC L k n / 2147483648 - lC M k n / 2147483648)=0/\lC L k n % 2147483648=lC M k n % 2147483648:=by
 rw[halves,halves] at h;omega
end Go.Proofs.YtfknkmlocbojhaaGreatDoor
namespace Go.Bw
open Classical
def sumP (f:Pos->Int):List Pos->Int
 | []=>0
 | p::r=>f p+sumP f r
theorem zA (f g:Pos->Int):∀ ps,sumP f ps+sumP g ps=sumP (fun p=>f p+g p) ps
 | []=>rfl
 | p::r=>by unfold sumP;rw[<-zA f g r];omega
theorem iT {f g:Pos->Int}:∀ {ps:List Pos},(∀ p∈ps,f p=g p)->sumP f ps=sumP g ps
 | [],h=>rfl
 | p::r,h=>by unfold sumP;rw[h p (List.mem_cons_self ..),iT fun q hq=>h q (List.mem_cons_of_mem _ hq)]
theorem Ik (f:Pos->Int) (g:Pos->Pos):∀ ps,sumP f (ps.map g)=sumP (fun p=>f (g p)) ps
 | []=>rfl
 | p::r=>by rw[List.map_cons];unfold sumP;rw[Ik f g r]
theorem wU {f:Pos->Int} {q:Pos->Bool}:∀ {ps:List Pos},(∀ p∈ps,q p=false->f p=0)->sumP f (ps.filter q)=sumP f ps
 | [],h=>rfl
 | p::r,h=>by
   have:=wU (f:=f) (q:=q) (ps:=r) fun x hx=>h x (List.mem_cons_of_mem _ hx)
   cases hq:q p with
   | true=>rw[List.filter_cons_of_pos hq];unfold sumP;rw[this]
   | false =>
     rw[List.filter_cons_of_neg (by rw[hq];decide)];have e:=h p (List.mem_cons_self ..) hq;rw[this]
     show _=f p+sumP f r
     omega
theorem sZ (f:Pos->Option (Int×Int)) (c:Pos->Int) (v k:Int):∀ ps,vK f c v k ps=sumP (fun p=>if p.aJ=v/\c p=k then (match f p with|.none=>0|.some x=>x.1) else 0) ps
 | []=>rfl
 | p::r=>by
   unfold vK sumP;rw[sZ f c v k r]
   cases f p with
   | none=>simp
   | some x=>rfl
def fF (W:Pos->Int×Int) (hit:Pos->Bool):List Pos->Int->Int×Bool
 | [],all=>(all,true)
 | p::r,all=>if hit p=true then (if (W p).2=0 then (if (fQ all (W p).1).2=0 then fF W hit r (fQ all (W p).1).1 else (0,false)) else (0,false)) else fF W hit r all
theorem rf {W:Pos->Int×Int} {hit:Pos->Bool}:∀ {ps:List Pos} {all:Int},(fF W hit ps all).2=true->(fF W hit ps all).1=all+sumP (fun p=>if hit p=true then (W p).1 else 0) ps/\∀ p∈ps,hit p=true->(W p).2=0
 | [],all,h=>⟨by simp[fF,sumP],by simp⟩
 | p::r,all,h=>by
   unfold fF at h ⊢;by_cases h1:hit p=true
   ·rw[if_pos h1] at h ⊢;by_cases h2:(W p).2=0
    ·rw[if_pos h2] at h ⊢;by_cases h3:(fQ all (W p).1).2=0
     ·rw[if_pos h3] at h ⊢;obtain⟨e1,e2⟩:=rf h;refine⟨?_,fun q hq hh=>?_⟩
      ·rw[e1,Ey h3]
       show _=all+((if hit p=true then (W p).1 else 0)+sumP _ r)
       rw[if_pos h1,Int.add_assoc]
      rcases List.mem_cons.1 hq with hq|hq
      ·rw[hq];exact h2
      exact e2 q hq hh
     rw[if_neg h3] at h;cases h
    rw[if_neg h2] at h;cases h
   rw[if_neg h1] at h ⊢;obtain⟨e1,e2⟩:=rf h;refine⟨?_,fun q hq hh=>?_⟩
   ·rw[e1]
    show _=all+((if hit p=true then (W p).1 else 0)+sumP _ r)
    rw[if_neg h1,Int.zero_add]
   rcases List.mem_cons.1 hq with hq|hq
   ·rw[hq] at hh;exact absurd hh h1
   exact e2 q hq hh
def sH (L:aI) (p:Pos):Int:=if (L.ins p.instr).aO=0\/L.day<=(L.ins p.instr).aO then (dH (L.ins p.instr) p.qty ((pX (L.ins p.instr) (L.und (L.ins p.instr).under) L.day).1 - (L.ins p.instr).mark)).1 else 0
theorem uQ {L:aI} (h:L.Good) {n:Nat} (hn:n<L.af.length) {v k:Int} (hv:1<=v) (hk:0<=k) (he:(dG L n).2=0) :
 (dG L n).1.aK v k=L.aK v k+sumP (fun p=>if p.instr=n/\p.aJ=v/\L.bK p.instr=k then (dH (L.ins p.instr) p.qty ((pX (L.ins p.instr) (L.und (L.ins p.instr).under) L.day).1 - (L.ins p.instr).mark)).1 else 0) L.aC /\
 (dG L n).1.af=L.af.set n { L.ins n with mark:=(pX (L.ins n) (L.und (L.ins n).under) L.day).1 }:=by
 obtain⟨n1,n2⟩:=xX h hn;unfold dG at he ⊢;rw[if_pos n1] at he ⊢;by_cases h1:(pX (L.ins n) (L.und (L.ins n).under) L.day).1<=100000000000000
 ·rw[if_pos h1] at he ⊢;by_cases h2:(dA (iD L n) (fun _=>L.bK n) 0 L.aC L).2=0
  ·rw[if_pos h2];refine⟨?_,rfl⟩;have t:=qc (v:=v) (k:=k) (frm:=0) (by omega) hk (fun p hp hq=>by
    have e:p.instr=n:=by
     by_cases e:p.instr=n
     ·exact e
     unfold iD at hq;rw[if_neg e] at hq;exact absurd rfl hq
    have:=h.pays (frm:=0) ⟨by decide,by decide⟩ hp;rw[e] at this;exact this) h2
   rw[if_neg (by omega),sZ] at t;refine Eq.trans (b:=(dA (iD L n) (fun _=>L.bK n) 0 L.aC L).1.aK v k) rfl ?_;rw[t,Int.sub_zero]
   congr 1
   refine iT fun p hp=>?_
   unfold iD;by_cases e:p.instr=n
   ·simp[e]
   simp[e]
  rw[if_neg h2] at he;exact absurd he h2
 rw[if_neg h1] at he;exact absurd he (by decide)
theorem jS.bK {L M:aI} (h:jS L M) {n:Nat} (hn:M.ins n=L.ins n):M.bK n=L.bK n:=by
 unfold aI.bK aI.und;rw[hn,h.ah]
theorem sG {L:aI} {v k:Int} (hv:1<=v) (hk:0<=k) (hL:L.Good):∀ {r:List Ins} {n:Nat} {M:aI} (D:jS L M) (hr:r=L.af.drop n) (hM:∀ j:Nat,n<=j->M.ins j=L.ins j) (he:(fC n r M).2=0),
 (fC n r M).1.aK v k=M.aK v k+sumP (fun p=>if (n:Int)<=p.instr/\p.aJ=v/\L.bK p.instr=k then sH L p else 0) L.aC
 | [],n,M,D,hr,hM,he=>by
   have hn:L.af.length<=n:=by have:=congrArg List.length hr;simp at this;omega
   show M.aK v k=_
   rw[iT (g:=fun _=>0) fun p hp=>by
    have:=(hL.aC.all p hp).2.2.2.1;rw[if_neg (by omega)]]
   have z:∀ ps:List Pos,sumP (fun _=>0) ps=0:=fun ps=>by
    induction ps with
    | nil=>rfl
    | cons p r ih=>unfold sumP;rw[ih];rfl
   rw[z];omega
 | i::r,n,M,D,hr,hM,he=>by
   have hn:n<L.af.length:=by
    have:=congrArg List.length hr
    simp at this;omega
   have hd:L.af.drop n=L.af[n]::L.af.drop (n+1):=List.drop_eq_getElem_cons hn;rw[hd] at hr;injection hr with hi hr;have hin:i=L.ins n:=by
    rw[hi];unfold aI.ins;rw[List.getD_eq_getElem?_getD,Int.toNat_natCast,List.getElem?_eq_getElem hn];rfl
   have hMl:M.af.length=L.af.length:=by have:=congrArg List.length D.af;simpa using this
   unfold fC at he ⊢;by_cases h1:i.aO=0\/M.day<=i.aO
   ·rw[if_pos h1] at he ⊢;by_cases h2:(dG M n).2=0
    ·rw[if_pos h2] at he ⊢;obtain⟨c1,c2⟩:=uQ D.good (by omega) hv hk h2;have D2:=D.trans (ku D.good (by omega) h2);have t:=sG hv hk hL D2 hr (fun j hj=>by
      rw[<-hM j (by omega)];unfold aI.ins;rw[c2,List.getD_eq_getElem?_getD,List.getElem?_set_ne (by simp;omega),List.getD_eq_getElem?_getD]) he
     rw[t,c1,D.aC,Int.add_assoc,zA]
     congr 1
     refine iT fun p hp=>?_
     by_cases e:p.instr=n
     ·have e1:M.ins p.instr=L.ins p.instr:=by rw[e];exact hM n (Nat.le_refl _)
      have e2:M.bK p.instr=L.bK p.instr:=by rw[e];exact D.bK (hM n (Nat.le_refl _))
      have e3:sH L p=(dH (L.ins p.instr) p.qty ((pX (L.ins p.instr) (L.und (L.ins p.instr).under) L.day).1 - (L.ins p.instr).mark)).1:=by
       unfold sH;rw[if_pos (by rw[e,<-hin,<-D.day];exact h1)]
      have e4:M.und (L.ins p.instr).under=L.und (L.ins p.instr).under:=by unfold aI.und;rw[D.ah]
      rw[e1,e2,e3,e4,D.day];by_cases a:p.aJ=v/\L.bK p.instr=k
      ·rw[if_pos ⟨e,a⟩,if_neg (by omega),if_pos ⟨by omega,a⟩];omega
      rw[if_neg (fun h=>a h.2),if_neg (fun h=>a h.2),if_neg (fun h=>a h.2)];rfl
     rw[if_neg (fun h=>e h.1)];by_cases a:p.aJ=v/\L.bK p.instr=k
     ·by_cases b:(n:Int)<=p.instr
      ·rw[if_pos ⟨by omega,a⟩,if_pos ⟨b,a⟩];omega
      rw[if_neg (fun h=>by omega),if_neg (fun h=>b h.1)];rfl
     rw[if_neg (fun h=>a h.2),if_neg (fun h=>a h.2)];rfl
    rw[if_neg h2] at he;exact absurd he h2
   rw[if_neg h1] at he ⊢;rw[sG hv hk hL D hr (fun j hj=>hM j (by omega)) he]
   congr 1
   refine iT fun p hp=>?_
   by_cases e:p.instr=n
   ·have e3:sH L p=0:=by unfold sH;rw[if_neg (by rw[e,<-hin,<-D.day];exact h1)]
    rw[e3];split <;> split <;> rfl
   by_cases a:p.aJ=v/\L.bK p.instr=k
   ·by_cases b:(n:Int)<=p.instr
    ·rw[if_pos ⟨by omega,a⟩,if_pos ⟨b,a⟩]
    rw[if_neg (fun h=>by omega),if_neg (fun h=>b h.1)]
   rw[if_neg (fun h=>a h.2),if_neg (fun h=>a h.2)]
theorem Na {L:aI} (h:L.Good) {v k:Int} (hv:1<=v) (hk:0<=k) (he:(jq L).err=0) :
 (jq L).led.aK v k=L.aK v k+sumP (fun p=>if p.aJ=v/\L.bK p.instr=k then sH L p else 0) L.aC:=by
 unfold jq at he ⊢;by_cases h1:L.day<100000
 ·rw[if_pos h1] at he ⊢;by_cases h2:(fC 0 L.af L).2=0
  ·rw[if_pos h2];have t:=sG hv hk h (n:=0) (M:=L) ⟨h,rfl,rfl,rfl,rfl,rfl,rfl,rfl,rfl,rfl⟩ (r:=L.af) (by simp) (fun _ _=>rfl) h2;refine Eq.trans (b:=(fC 0 L.af L).1.aK v k) rfl (t.trans ?_)
   congr 1
   refine iT fun p hp=>?_
   have:=(h.aC.all p hp).2.2.1;by_cases a:p.aJ=v/\L.bK p.instr=k
   ·rw[if_pos ⟨by omega,a⟩,if_pos a]
   rw[if_neg (fun h=>a h.2),if_neg a]
  rw[if_neg h2] at he;exact absurd he h2
 rw[if_neg h1] at he;exact absurd (iw he) (by decide)
theorem Bf (b:Int):(gB 0 b).1=0:=by
 unfold gB
 split
 ·simp[lF]
 rfl
theorem Ir (i:Ins) (v:Int):(dH i 0 v).1=0:=by
 unfold dH
 split
 ·rw[Bf];exact Bf v
 rfl
theorem yV {f:Pos->Option (Int×Int)} {c:Pos->Int} {frm:Int}:∀ {ps:List Pos} {L:aI},(dA f c frm ps L).2=0->∀ p∈ps,∀ x,f p=some x->x.2=0
 | [],L,h,p,hp,x,hx=>by cases hp
 | q::r,L,h,p,hp,x,hx=>by
   unfold dA at h
   cases hq:f q with
   | none =>
     rw[hq] at h;rcases List.mem_cons.1 hp with e|hp
     ·rw[e,hq] at hx;cases hx
     exact yV h p hp x hx
   | some y =>
     rw[hq] at h
     simp only at h
     by_cases h1:y.2=0
     ·rw[if_pos h1] at h;rcases List.mem_cons.1 hp with e|hp
      ·rw[e,hq] at hx;cases hx;exact h1
      split at h
      ·exact yV h p hp x hx
      rename_i h2;exact absurd h h2
     rw[if_neg h1] at h;exact absurd h h1
theorem NQ {num den:Int} {i:Ins} {q:Int} (h:(oh num den i q).2=0) :
 (oh num den i q).1+(dH i (dL num den q).1 (gU num den i.mark).1).1=(dH i q i.mark).1:=by
 unfold oh at h ⊢
 split at h
 ·rename_i h1;rw[if_pos h1]
  split at h
  ·rename_i h2;rw[if_pos h2]
   split at h
   ·rename_i h3;rw[if_pos h3,Ij h];omega
   rename_i h3;exact absurd h h3
  rename_i h2;exact absurd h h2
 rename_i h1;exact absurd h h1
theorem tY {L:aI} {u num den:Int} {n:Int} (h0:0<=n) (h1:n<L.af.length):(L.split u num den).ins n=if (L.ins n).under=u then rU num den (L.ins n) else L.ins n:=by
 have hn:=getD_at L.af n.toNat ⟨0,0,0,0,0,false,0⟩ (by omega)
 show (gq u num den L.af).getD n.toNat _=_
 unfold gq;rw[List.getD_eq_getElem?_getD,List.getElem?_map,hn];rfl
theorem Aa {L:aI} {u num den:Int} (hu:0<=u/\u<L.ah.length) (n:Int):((L.split u num den).und n).cur=(L.und n).cur:=by
 unfold aI.und
 show ((L.ah.set u.toNat _).getD n.toNat _).cur=_
 rw[List.getD_eq_getElem?_getD,List.getElem?_set];by_cases e:u.toNat=n.toNat
 ·rw[if_pos e,if_pos (by omega)]
  show (L.und u).cur=_
  unfold aI.und;rw[e]
 rw[if_neg e,List.getD_eq_getElem?_getD]
theorem uU {L:aI} {u num den:Int} (hu:0<=u/\u<L.ah.length) {n:Int} (h0:0<=n) (h1:n<L.af.length):(L.split u num den).bK n=L.bK n:=by
 unfold aI.bK;rw[Aa hu,tY h0 h1]
 split <;> rfl
def sV (L:aI) (v k:Int):Int:=sumP (fun p=>if p.aJ=v/\L.bK p.instr=k then (dH (L.ins p.instr) p.qty (L.ins p.instr).mark).1 else 0) L.aC
theorem Eh {L:aI} (h:L.Good) {u num den v k:Int} (hv:2<=v) (hk:0<=k) (he:(dD L u num den).err=0) :
 (dD L u num den).led.aK v k+sV (dD L u num den).led v k=L.aK v k+sV L v k:=by
 obtain⟨h1,h2,h3,h4,h5,h6,h7,e⟩:=tX he;have K:=iP (f:=jr L u num den) (c:=fun p=>L.bK p.instr) (frm:=1) (ps:=L.aC) (L:=L.split u num den) ⟨by decide,h.two⟩ (fun p hp=>by
  obtain⟨a1,a2,_⟩:=h.aC.all p hp;exact⟨by omega,a2⟩) h6
 have t:=qc (L:=L.split u num den) (v:=v) (k:=k) (by omega) hk (fun p hp hq=>by
  have:=h.pays (frm:=1) ⟨by decide,by decide⟩ hp;exact⟨this.1.ai (M:=L.split u num den) rfl,this.2.ai (M:=L.split u num den) rfl⟩) h6
 rw[if_neg (by omega),sZ,Int.sub_zero] at t;have ok:=yV h6;rw[e];generalize hR:(dA (jr L u num den) (fun p=>L.bK p.instr) 1 L.aC (L.split u num den)).1=R at *;have ei:∀ n,aI.ins { R with aC:=(bg L u num den L.aC).filter (fun p=>decide (p.qty≠0)),aP:=(bg L u num den L.aP).filter (fun p=>decide (0<p.qty)),orders:=L.orders.filter (fun o=>!L.over u o.instr) } n=(L.split u num den).ins n:=fun n=>by
  unfold aI.ins;simp only;rw[K.af]
 have ec:∀ n,aI.bK { R with aC:=(bg L u num den L.aC).filter (fun p=>decide (p.qty≠0)),aP:=(bg L u num den L.aP).filter (fun p=>decide (0<p.qty)),orders:=L.orders.filter (fun o=>!L.over u o.instr) } n=(L.split u num den).bK n:=fun n=>by
  unfold aI.bK;rw[ei];unfold aI.und;simp only;rw[K.ah]
 have e0:(L.split u num den).aK v k=L.aK v k:=rfl;unfold sV
 simp only[ei,ec]
 show R.aK v k+sumP _ ((bg L u num den L.aC).filter fun p=>decide (p.qty≠0))=_
 rw[t,e0,wU (fun p hp hq=>by
  have hz:p.qty=0:=by simpa using hq
  rw[hz,Ir];split <;> rfl)]
 unfold bg;rw[Ik,Int.add_assoc,zA]
 congr 1
 refine iT fun p hp=>?_
 obtain⟨a1,a2,a3,a4,_⟩:=h.aC.all p hp;have o:=ok p hp;unfold jr at o ⊢;by_cases ov:L.over u p.instr=true
 ·have ou:(L.ins p.instr).under=u:=by simpa [aI.over] using ov
  rw[if_pos ov] at o;have o2:=NQ (o _ rfl)
  simp only[ov,if_true]
  rw[tY a3 a4,uU h1 a3 a4,if_pos ou];by_cases w:p.aJ=v/\L.bK p.instr=k
  ·rw[if_pos w,if_pos w,if_pos w];exact o2
  rw[if_neg w,if_neg w,if_neg w];rfl
 have ou:¬ (L.ins p.instr).under=u:=by simpa [aI.over] using ov
 rw[if_neg ov,if_neg ov];rw[tY a3 a4,uU h1 a3 a4,if_neg ou];by_cases w:p.aJ=v/\L.bK p.instr=k
 ·rw[if_pos w,if_pos w];simp
 rw[if_neg w,if_neg w];rfl
def Acc.shape (a:Acc):Int×Bool×Int×Nat:=(a.parent,a.flag,a.last,a.aK.length)
theorem Fj {L:aI} (h:L.Good) (he:(jq L).err=0) :
 (jq L).led.day=L.day+1/\(jq L).num=L.day+1/\(jq L).led.orders=[]/\(jq L).led.aP=[]/\(jq L).led.aH=List.replicate L.af.length 0 /\
 (jq L).led.aC=L.aC.filter (fun p=>ja L.day (L.ins p.instr))/\(jq L).led.aT=L.aT/\(jq L).led.ah=L.ah /\
 (jq L).led.af.map Ins.noMark=L.af.map Ins.noMark/\(jq L).led.ai.map Acc.shape=L.ai.map Acc.shape:=by
 unfold jq at he ⊢;by_cases h1:L.day<100000
 ·rw[if_pos h1] at he ⊢;by_cases h2:(fC 0 L.af L).2=0
  ·rw[if_pos h2];have k:=nX h (by simp) h2;exact⟨rfl,rfl,rfl,rfl,rfl,rfl,k.aT,k.ah,k.af,k.ai⟩
  rw[if_neg h2] at he;exact absurd he h2
 rw[if_neg h1] at he;exact absurd (iw he) (by decide)
theorem FH {L:aI} (h:L.Good) {u x:Int} (he:(jW L u x).err=0):fH L (jW L u x).led/\(jW L u x).num=u/\0<=u/\u<L.ah.length:=by
 unfold jW at he ⊢;by_cases h1:0<=u/\u<L.ah.length
 ·rw[if_pos h1] at he ⊢;by_cases h2:0<=x/\x<=1000000000000
  ·rw[if_pos h2] at he ⊢;by_cases h3:(dA (Fz L u x) (fun p=>L.bK p.instr) 0 L.aC L).2=0
   ·rw[if_pos h3];exact⟨iP ⟨Int.le_refl _,nN h⟩ (fun p hp=>by
     obtain⟨a1,a2,_⟩:=h.aC.all p hp;omega) h3,rfl,h1⟩
   rw[if_neg h3] at he;exact absurd he h3
  rw[if_neg h2] at he;exact absurd (iw he) (by decide)
 rw[if_neg h1] at he;exact absurd (iw he) (by decide)
theorem NV {L:aI} {u:Int} {s:ByteArray} (he:(jB L u s).err=0) :
 (0<=u/\u<L.ah.length)/\jB L u s=⟨{ L with ah:=L.ah.set u.toNat { L.und u with name:=s } },u,0⟩:=by
 unfold jB at he ⊢;by_cases h1:0<=u/\u<L.ah.length
 ·rw[if_pos h1] at he ⊢;by_cases h2:nameB s=true/\∀ x∈L.ah,x.name≠s
  ·rw[if_pos h2];exact⟨h1,rfl⟩
  rw[if_neg h2] at he;exact absurd (iw he) (by decide)
 rw[if_neg h1] at he;exact absurd (iw he) (by decide)
theorem zY {L:aI} (h:L.Good) {u num den:Int} (he:(dD L u num den).err=0) :
 (0<=u/\u<L.ah.length)/\(dD L u num den).num=u/\(dD L u num den).led.day=L.day/\(dD L u num den).led.aT=L.aT /\
 (dD L u num den).led.ah=L.ah.set u.toNat { L.und u with price:=(gU num den (L.und u).price).1 } /\
 (dD L u num den).led.af=gq u num den L.af/\(dD L u num den).led.ai.map Acc.shape=L.ai.map Acc.shape:=by
 obtain⟨h1,h2,h3,h4,h5,h6,h7,e⟩:=tX he;have K:=iP (f:=jr L u num den) (c:=fun p=>L.bK p.instr) (frm:=1) (ps:=L.aC) (L:=L.split u num den) ⟨by decide,h.two⟩ (fun p hp=>by
  obtain⟨a1,a2,_⟩:=h.aC.all p hp;exact⟨by omega,a2⟩) h6
 rw[e];exact⟨h1,rfl,K.day,K.aT,K.ah,K.af,K.ai⟩
theorem fA {N:aI} {l:List Ins} {n:Nat} {x:Ins} (e:N.af=l.set n x) (hn:n<l.length):N.ins n=x:=by
 unfold aI.ins;rw[e,List.getD_eq_getElem?_getD,Int.toNat_natCast,List.getElem?_set_self hn];rfl
def dJ (L:aI) (i:Ins):Int:=if i.aO=0\/L.day<=i.aO then (pX i (L.und i.under) L.day).1 else i.mark
theorem qK {L:aI} (hL:L.Good):∀ {r:List Ins} {n:Nat} {M:aI} (D:jS L M) (hr:r=L.af.drop n) (hM:∀ j:Nat,n<=j->M.ins j=L.ins j) (he:(fC n r M).2=0) (j:Nat),
 (fC n r M).1.ins j=if n<=j/\j<L.af.length then { L.ins j with mark:=dJ L (L.ins j) } else M.ins j
 | [],n,M,D,hr,hM,he,j=>by
   have hn:L.af.length<=n:=by have:=congrArg List.length hr;simp at this;omega
   rw[if_neg (by omega)];rfl
 | i::r,n,M,D,hr,hM,he,j=>by
   have hn:n<L.af.length:=by
    have:=congrArg List.length hr
    simp at this;omega
   have hd:L.af.drop n=L.af[n]::L.af.drop (n+1):=List.drop_eq_getElem_cons hn;rw[hd] at hr;injection hr with hi hr;have hin:i=L.ins n:=by
    rw[hi];unfold aI.ins;rw[List.getD_eq_getElem?_getD,Int.toNat_natCast,List.getElem?_eq_getElem hn];rfl
   have hMl:M.af.length=L.af.length:=by have:=congrArg List.length D.af;simpa using this
   have hMn:=hM n (Nat.le_refl _);unfold fC at he ⊢;by_cases h1:i.aO=0\/M.day<=i.aO
   ·rw[if_pos h1] at he ⊢;by_cases h2:(dG M n).2=0
    ·rw[if_pos h2] at he ⊢;obtain⟨_,c2⟩:=uQ (v:=1) (k:=0) D.good (by omega) (by decide) (by decide) h2;have D2:=D.trans (ku D.good (by omega) h2);have en:(dG M n).1.ins n={ L.ins n with mark:=dJ L (L.ins n) }:=by
      rw[fA c2 (by omega)];have e4:M.und (M.ins n).under=L.und (L.ins n).under:=by
       have:M.ins n=L.ins n:=hM n (Nat.le_refl _);rw[this];unfold aI.und;rw[D.ah]
      have e5:M.ins n=L.ins n:=hM n (Nat.le_refl _);rw[e4,e5,D.day];unfold dJ;rw[<-D.day,if_pos (show (L.ins n).aO=0\/M.day<=(L.ins n).aO by rw[<-hin];exact h1)]
     have eo:∀ j:Nat,j≠n->(dG M n).1.ins j=M.ins j:=fun j hj=>by
      unfold aI.ins;rw[c2,List.getD_eq_getElem?_getD,List.getElem?_set_ne (by simp;omega),List.getD_eq_getElem?_getD]
     have t:=qK hL D2 hr (fun j hj=>by rw[eo j (by omega)];exact hM j (by omega)) he j;rw[t];by_cases e:j=n
     ·subst e;rw[if_neg (by omega),if_pos ⟨Nat.le_refl _,hn⟩];exact en
     by_cases a:n<=j/\j<L.af.length
     ·rw[if_pos a,if_pos ⟨by omega,a.2⟩]
     rw[if_neg a,if_neg (by omega),eo j e]
    rw[if_neg h2] at he;exact absurd he h2
   rw[if_neg h1] at he ⊢;rw[qK hL D hr (fun j hj=>hM j (by omega)) he j];by_cases e:j=n
   ·subst e;rw[if_neg (by omega),if_pos ⟨Nat.le_refl _,hn⟩,hMn];have:dJ L (L.ins j)=(L.ins j).mark:=by unfold dJ;rw[if_neg (by rw[<-hin,<-D.day];exact h1)]
    rw[this]
   by_cases a:n<=j/\j<L.af.length
   ·rw[if_pos a,if_pos ⟨by omega,a.2⟩]
   rw[if_neg a,if_neg (by omega)]
theorem Jb {L:aI} (h:L.Good) (he:(jq L).err=0) {j:Nat} (hj:j<L.af.length):(jq L).led.ins j={ L.ins j with mark:=dJ L (L.ins j) }:=by
 unfold jq at he ⊢;by_cases h1:L.day<100000
 ·rw[if_pos h1] at he ⊢;by_cases h2:(fC 0 L.af L).2=0
  ·rw[if_pos h2];have t:=qK h (n:=0) (M:=L) ⟨h,rfl,rfl,rfl,rfl,rfl,rfl,rfl,rfl,rfl⟩ (r:=L.af) (by simp) (fun _ _=>rfl) h2 j;rw[if_pos ⟨Nat.zero_le _,hj⟩] at t;exact t
  rw[if_neg h2] at he;exact absurd he h2
 rw[if_neg h1] at he;exact absurd (iw he) (by decide)
end Go.Bw
namespace Go.Proofs.YtfknkmlocbojhaaGreatDoor
open Go.RowKit Go.Bw Go.Maps Go.Shelf Go.Bw.Fall
def qx:aI:=⟨0,[⟨1000000,0⟩],[⟨⟨#[65]⟩,0,101,0⟩],[⟨1,0,1,0,0,false,101⟩],[⟨-1,[0],false,0⟩,⟨-1,[0],false,0⟩,⟨-1,[1000],false,0⟩],[⟨2,0,5⟩],[],[0],[]⟩
def vw:aI:=⟨0,[⟨1000000,0⟩],[⟨⟨#[65]⟩,0,67,0⟩],[⟨1,0,1,0,0,false,67⟩],[⟨-1,[0],false,0⟩,⟨-1,[-36],false,0⟩,⟨-1,[1036],false,0⟩],[⟨2,0,7⟩],[],[0],[]⟩
def zL:aI:=⟨0,[⟨1000000,0⟩],[⟨⟨#[65]⟩,0,101,0⟩],[⟨1,0,1,0,0,false,101⟩],[⟨-1,[-20],false,0⟩,⟨-1,[0],false,0⟩,⟨-1,[1020],false,0⟩],[⟨2,0,5⟩],[],[0],[]⟩
theorem JC {α:Type} {x:α} {n:Nat} {y:α} (h:[x][n]?=some y):n=0/\y=x:=by
 have h1:=(List.getElem?_eq_some_iff.1 h).1;have:n=0:=by simpa using h1
 subst this;exact⟨rfl,by simpa using h.symm⟩
theorem zh {α:Type} {lt:α->α->Prop} {l:List α} (h:l.length<=1):jC lt l:=fun i a b ha hb=>by
 have:=(List.getElem?_eq_some_iff.1 hb).1;omega
theorem uw:qx.Good:=by
 refine⟨by decide,by decide,⟨by decide,by decide,by decide,by decide,?_,?_,?_,?_⟩,⟨⟨by decide,by decide,?_⟩,?_⟩,⟨by decide,?_,zh (by decide)⟩,⟨by decide,by simp[qx],zh (by decide)⟩,⟨by decide,by decide,?_,?_,zh (by decide)⟩,by simp[qx]⟩
 ·intro n c hc;obtain⟨rfl,rfl⟩:=JC hc;exact⟨by decide,by decide,by decide,by decide,fun _=>rfl⟩
 ·intro n c hc;obtain⟨rfl,rfl⟩:=JC hc;exact⟨by decide,by decide,by decide,by decide,by decide,by decide,by decide⟩
 ·intro n k u v hk hu;obtain⟨rfl,rfl⟩:=JC hu;omega
 ·intro i hi
  simp only[qx,List.mem_cons,List.not_mem_nil,or_false] at hi
  subst hi;exact⟨by decide,by decide,by decide,by decide,by decide,by decide,Or.inl (by decide)⟩
 ·intro v p hp
  left
  have:=List.mem_of_getElem? hp
  simpa [qx] using this
 ·intro v a ha
  match v,ha with
  | 0,ha=>cases ha;exact⟨rfl,by decide,by decide,fun _=>⟨rfl,rfl⟩,by decide⟩
  | 1,ha=>cases ha;exact⟨rfl,by decide,by decide,fun _=>⟨rfl,rfl⟩,by decide⟩
  | 2,ha=>cases ha;exact⟨rfl,by decide,by decide,fun h=>by omega,by decide⟩
  | v+3,ha=>simp[qx] at ha
 ·intro p hp
  simp only[qx,List.mem_cons,List.not_mem_nil,or_false] at hp
  subst hp;exact⟨by decide,by decide,by decide,by decide,by decide,by decide,by decide⟩
 ·intro q hq
  simp only[qx,List.mem_cons,List.not_mem_nil,or_false] at hq
  subst hq;decide
 intro x hx;simp[qx] at hx
theorem uq:jW qx 0 4=⟨zL,0,0⟩:=by
 unfold jW;rw[if_pos (by decide),if_pos (by decide),if_pos (by decide +kernel)];have:(dA (Fz qx 0 4) (fun p=>qx.bK p.instr) 0 qx.aC qx).1=zL:=by kernel_rfl
 rw[this]
theorem oN:dD qx 0 3 2=⟨vw,0,0⟩:=by
 unfold dD;rw[if_pos (by decide),if_pos (by decide),if_pos (by decide +kernel),if_pos ⟨by decide +kernel,by decide,by decide,by decide +kernel,by decide +kernel,by decide,by decide⟩,if_pos ?_,if_pos (by decide +kernel),if_pos (by decide +kernel)]
 ·have:(dA (jr qx 0 3 2) (fun p=>qx.bK p.instr) 1 qx.aC (qx.split 0 3 2)).1={ vw with aC:=qx.aC }:=by kernel_rfl
  rw[this];have e1:(bg qx 0 3 2 qx.aC).filter (fun p=>decide (p.qty≠0))=vw.aC:=by kernel_rfl
  have e2:(bg qx 0 3 2 qx.aP).filter (fun p=>decide (0<p.qty))=vw.aP:=by kernel_rfl
  rw[e1,e2];rfl
 show gX 0 3 2 1 [⟨1,0,1,0,0,false,101⟩] [0]=0
 unfold gX;have e:zQ 3 2 1 ⟨1,0,1,0,0,false,101⟩ 0=0:=by
  unfold zQ;rw[if_pos (by decide +kernel),if_pos (by decide +kernel),if_pos ⟨by decide,by decide,by decide,by decide,by decide +kernel,by decide +kernel,Or.inl ⟨by decide,by decide +kernel,by decide,by decide⟩⟩];decide +kernel
 rw[if_pos rfl,if_pos e];rfl
theorem Jc:gJ vw=some vw:=by kernel_rfl
theorem Jd:gJ zL=some zL:=by kernel_rfl
theorem Nh:vw.Good:=by
 have:=qW uw (u:=0) (num:=3) (den:=2) (by rw[oN]);rw[oN] at this;exact this
theorem Nj:zL.Good:=by
 have:=vk uw (u:=0) (x:=4) (by rw[uq]);rw[uq] at this;exact this
theorem Je:dF qx (dD qx 0 3 2)=(vw,0,0):=by
 have hf:=kM Nh Jc;rw[rE uw (by rw[oN]) (by rw[oN,hf]),oN,hf]
theorem Qj:dF qx (jW qx 0 4)=(zL,0,0):=by
 have hf:=kM Nj Jd;rw[rE uw (by rw[uq]) (by rw[uq,hf]),uq,hf]
end Go.Proofs.YtfknkmlocbojhaaGreatDoor
namespace Go.Proofs.YtfknkmlocbojhaaGreatDoor
open Go.RowKit Go.Bw Go.Maps Go.Shelf
theorem Hw {i:Ins} {q v:Int} (hq:bf q=true):kZ [q,i.mult,v] 1=dH i q v:=by
 have h1:gB 1 q=(q,0):=by rw[mX,Int.one_mul,if_pos ⟨rfl,hq,hq⟩]
 unfold kZ;rw[h1]
 simp only[ne_eq,not_true_eq_false,if_false]
 unfold kZ dH;by_cases h2:(gB q i.mult).2=0
 ·rw[if_neg (fun h=>h h2),if_pos h2];unfold kZ;by_cases h3:(gB (gB q i.mult).1 v).2=0
  ·rw[if_neg (fun h=>h h3)];unfold kZ;exact Prod.ext rfl h3.symm
  rw[if_pos h3];rcases kE (gB q i.mult).1 v with e|e
  ·exact absurd e.1 h3
  rw[e]
 rw[if_pos h2,if_neg h2]
end Go.Proofs.YtfknkmlocbojhaaGreatDoor
