/- Joined: LifP, LifQ, LifR, LifT, LifS, LifU, LifV, LifW, LifX, LifE, LifY. -/
import Derived.Test.YtfknkmlocbojhaaGreatDoorGm
import Derived.Test.YtfknkmlocbojhaaGreatDoorGn
import Derived.Test.YtfknkmlocbojhaaGreatDoorGc
set_option linter.unusedVariables false
set_option linter.unusedSimpArgs false
namespace Go.Bw
open Classical
def aH.none:aH:=⟨0,[],[],[],[],[],[],[],[]⟩
def aH.aV (L:aH) (a c:Int):Int:=(L.acc a).aV.getD c.toNat 0
def aH.dK (L:aH) (a c x:Int):aH:={ L with ai:=L.ai.set a.toNat { L.acc a with aV:=(L.acc a).aV.set c.toNat x } }
def gu (L:aH) (c x f t:Int):aH×Int :=
 if (gV (L.aV f c) x).2=0 then
  if (gG ((L.dK f c (gV (L.aV f c) x).1).aV t c) x).2=0 then
   ((L.dK f c (gV (L.aV f c) x).1).dK t c (gG ((L.dK f c (gV (L.aV f c) x).1).aV t c) x).1,0)
  else (aH.none,(gG ((L.dK f c (gV (L.aV f c) x).1).aV t c) x).2)
 else (aH.none,(gV (L.aV f c) x).2)
def dw (f:Pos->Option (Int×Int)) (c:Pos->Int) (frm:Int):List Pos->aH->aH×Int
 | [],L=>(L,0)
 | p::r,L=>match f p with
   | .none=>dw f c frm r L
   | .some x=>if x.2=0 then (if (gu L (c p) x.1 frm p.aG).2=0 then dw f c frm r (gu L (c p) x.1 frm p.aG).1 else (aH.none,(gu L (c p) x.1 frm p.aG).2)) else (aH.none,x.2)
def aH.bU (L:aH) (n:Int):Int:=(L.und (L.ins n).under).cur
def dW (i:Ins) (q v:Int):Int×Int:=if (fP q i.mult).2=0 then fP (fP q i.mult).1 v else (0,(fP q i.mult).2)
def ja (L:aH) (n:Nat) (p:Pos):Option (Int×Int):=if p.instr=n then some (dW (L.ins n) p.qty ((vK (L.ins n) (L.und (L.ins n).under) L.day).1 - (L.ins n).mark)) else .none
def dS (L:aH) (n:Nat):aH×Int :=
 if (vK (L.ins n) (L.und (L.ins n).under) L.day).2=0 then
  if (vK (L.ins n) (L.und (L.ins n).under) L.day).1<=100000000000000 then
   if (dw (ja L n) (fun _=>L.bU n) 0 L.aB L).2=0 then
    ({ (dw (ja L n) (fun _=>L.bU n) 0 L.aB L).1 with af:=L.af.set n { L.ins n with mark:=(vK (L.ins n) (L.und (L.ins n).under) L.day).1 } },0)
   else (aH.none,(dw (ja L n) (fun _=>L.bU n) 0 L.aB L).2)
  else (aH.none,4)
 else (aH.none,(vK (L.ins n) (L.und (L.ins n).under) L.day).2)
def gB:Nat->List Ins->aH->aH×Int
 | _,[],L=>(L,0)
 | n,i::r,L=>if i.aU=0\/L.day<=i.aU then (if (dS L n).2=0 then gB (n+1) r (dS L n).1 else (aH.none,(dS L n).2)) else gB (n+1) r L
def gJ (day:Int) (i:Ins):Bool:=decide (i.aU≠day\/day=0)
def jq (L:aH):wu :=
 if L.day<100000 then
  if (gB 0 L.af L).2=0 then
   ⟨{ (gB 0 L.af L).1 with day:=L.day+1,aB:=L.aB.filter (fun p=>gJ L.day (L.ins p.instr)),orders:=[],aK:=[],aF:=List.replicate L.af.length 0 },L.day+1,0⟩
  else .no (gB 0 L.af L).2
 else .no 41
def Dn (L:aH) (u x:Int) (p:Pos):Option (Int×Int):=if (L.ins p.instr).under=u/\(L.ins p.instr).kind=1 then some (dW (L.ins p.instr) p.qty x) else .none
def iT (L:aH) (u x:Int):wu :=
 if 0<=u/\u<L.ah.length then
  if 0<=x/\x<=1000000000000 then
   if (dw (Dn L u x) (fun p=>L.bU p.instr) 0 L.aB L).2=0 then ⟨(dw (Dn L u x) (fun p=>L.bU p.instr) 0 L.aB L).1,u,0⟩
   else .no (dw (Dn L u x) (fun p=>L.bU p.instr) 0 L.aB L).2
  else .no 1
 else .no 31
noncomputable def iD (L:aH) (u:Int) (s:ByteArray):wu :=
 if 0<=u/\u<L.ah.length then
  if nameB s=true/\∀ x∈L.ah,x.name≠s then ⟨{ L with ah:=L.ah.set u.toNat { L.und u with name:=s } },u,0⟩ else .no 42
 else .no 31
def fB (num den v:Int):Int×Int:=lC v den num 0
def cZ (num den q:Int):Int×Int :=
 if (lC q num den 2).2=0 then (if -1000000000<=(lC q num den 2).1/\(lC q num den 2).1<=1000000000 then ((lC q num den 2).1,0) else (0,36)) else (0,(lC q num den 2).2)
def pR (num den:Int) (i:Ins):Ins:={ i with strike:=(fB num den i.strike).1,mark:=(fB num den i.mark).1 }
noncomputable def wO (num den:Int) (ah:Nat) (i:Ins) (q:Int):Int :=
 if (fB num den i.strike).2=0 then
  if (fB num den i.mark).2=0 then
   if (pR num den i).Ok ah then (cZ num den q).2 else 37
  else (fB num den i.mark).2
 else (fB num den i.strike).2
noncomputable def fA (u num den:Int) (ah:Nat):List Ins->List Int->Int
 | i::r,q::s=>if i.under=u then (if wO num den ah i q=0 then fA u num den ah r s else wO num den ah i q) else fA u num den ah r s
 | _,_=>0
def eX (u num den:Int) (l:List Ins):List Ins:=l.map fun i=>if i.under=u then pR num den i else i
def dZ (u num den:Int) (l:List Ins) (qs:List Int):List Int:=List.zipWith (fun i q=>if i.under=u then (cZ num den q).1 else q) l qs
def oq (num den:Int) (i:Ins) (q:Int):Int×Int :=
 if (dW i q i.mark).2=0 then
  if (cZ num den q).2=0 then
   if (dW i (cZ num den q).1 (fB num den i.mark).1).2=0 then gV (dW i q i.mark).1 (dW i (cZ num den q).1 (fB num den i.mark).1).1
   else (0,(dW i (cZ num den q).1 (fB num den i.mark).1).2)
  else (0,(cZ num den q).2)
 else (0,(dW i q i.mark).2)
def aH.over (L:aH) (u:Int) (n:Int):Bool:=decide ((L.ins n).under=u)
def jK (L:aH) (u num den:Int) (p:Pos):Option (Int×Int):=if L.over u p.instr=true then some (oq num den (L.ins p.instr) p.qty) else .none
def bf (L:aH) (u num den:Int) (l:List Pos):List Pos:=l.map fun p=>if L.over u p.instr=true then { p with qty:=(cZ num den p.qty).1 } else p
def iR (L:aH) (u num den:Int):List Pos->Int
 | []=>0
 | p::r=>if L.over u p.instr=true then (if (cZ num den p.qty).2=0 then iR L u num den r else (cZ num den p.qty).2) else iR L u num den r
def aH.split (L:aH) (u num den:Int):aH:={ L with ah:=L.ah.set u.toNat { L.und u with price:=(fB num den (L.und u).price).1 },af:=eX u num den L.af,aF:=dZ u num den L.af L.aF }
noncomputable def bZ (L:aH) (u num den:Int):wu :=
 if 0<=u/\u<L.ah.length then
  if 1<=num/\num<=1000/\1<=den/\den<=1000 then
   if (fB num den (L.und u).price).2=0 then
    if eU.Ok { L.und u with price:=(fB num den (L.und u).price).1 } L.aO.length then
     if fA u num den L.ah.length L.af L.aF=0 then
      if (dw (jK L u num den) (fun p=>L.bU p.instr) 1 L.aB (L.split u num den)).2=0 then
       if iR L u num den L.aK=0 then
        ⟨{ (dw (jK L u num den) (fun p=>L.bU p.instr) 1 L.aB (L.split u num den)).1 with aB:=(bf L u num den L.aB).filter (fun p=>decide (p.qty≠0)),aK:=(bf L u num den L.aK).filter (fun p=>decide (0<p.qty)),orders:=L.orders.filter (fun o=>!L.over u o.instr) },u,0⟩
       else .no (iR L u num den L.aK)
      else .no (dw (jK L u num den) (fun p=>L.bU p.instr) 1 L.aB (L.split u num den)).2
     else .no (fA u num den L.ah.length L.af L.aF)
    else .no 37
   else .no (fB num den (L.und u).price).2
  else .no 1
 else .no 31
structure dQ (L M:aH):Prop where
 day:M.day=L.day
 aO:M.aO=L.aO
 ah:M.ah=L.ah
 af:M.af=L.af
 aB:M.aB=L.aB
 orders:M.orders=L.orders
 aF:M.aF=L.aF
 aK:M.aK=L.aK
 ai:M.ai.map (fun a=>(a.parent,a.flag,a.last,a.aV.length))=L.ai.map fun a=>(a.parent,a.flag,a.last,a.aV.length)
 fits:(∀ a∈L.ai,∀ x∈a.aV,aX x=true)->∀ a∈M.ai,∀ x∈a.aV,aX x=true
theorem dQ.rfl {L:aH}:dQ L L:=⟨.refl _,.refl _,.refl _,.refl _,.refl _,.refl _,.refl _,.refl _,.refl _,fun h=>h⟩
theorem dQ.trans {L M N:aH} (h:dQ L M) (k:dQ M N):dQ L N :=
 ⟨k.day.trans h.day,k.aO.trans h.aO,k.ah.trans h.ah,k.af.trans h.af,k.aB.trans h.aB,k.orders.trans h.orders,k.aF.trans h.aF,k.aK.trans h.aK,k.ai.trans h.ai,fun x=>k.fits (h.fits x)⟩
theorem pI (L:aH) (a c x:Int) (ha:0<=a/\a<L.ai.length) (hx:aX x=true):dQ L (L.dK a c x):=by
 have hA:=getD_at L.ai a.toNat ⟨-1,[],false,0⟩ (by omega);refine⟨.refl _,.refl _,.refl _,.refl _,.refl _,.refl _,.refl _,.refl _,pW _ _ _ ⟨-1,[],false,0⟩ _ (by omega) ?_,fun h b hb y hy=>?_⟩
 ·show (_,_,_,_)=(_,_,_,_)
  simp[aH.acc]
 rcases List.mem_or_eq_of_mem_set hb with hb|hb
 ·exact h b hb y hy
 subst hb;rcases List.mem_or_eq_of_mem_set hy with hy|hy
 ·exact h _ (List.mem_of_getElem? hA) y hy
 rw[hy];exact hx
theorem wX {a b:Int} (h:(gG a b).2=0):aX (gG a b).1=true:=by
 unfold gG at h ⊢
 split at h
 ·rename_i h4;rw[if_pos h4];exact h4.2.2
 cases h
theorem rW {a b:Int} (h:(gV a b).2=0):aX (gV a b).1=true:=by
 unfold gV at h ⊢
 split at h
 ·rename_i h4;rw[if_pos h4];exact h4.2.2
 cases h
theorem oG {L:aH} {c x f t:Int} (hf:0<=f/\f<L.ai.length) (ht:0<=t/\t<L.ai.length) (h:(gu L c x f t).2=0):dQ L (gu L c x f t).1:=by
 unfold gu at h ⊢
 split at h
 ·rename_i h1;rw[if_pos h1]
  split at h
  ·rename_i h2;rw[if_pos h2];have k:=pI L f c _ hf (rW h1);exact k.trans (pI _ t c _ ⟨ht.1,by simpa [aH.dK] using ht.2⟩ (wX h2))
  rename_i h2;exact absurd h h2
 rename_i h1;exact absurd h h1
theorem dQ.len {L M:aH} (h:dQ L M):M.ai.length=L.ai.length:=by
 have:=congrArg List.length h.ai
 simpa using this
theorem gI {f:Pos->Option (Int×Int)} {c:Pos->Int} {frm:Int}:∀ {ps:List Pos} {L:aH} (hf:0<=frm/\frm<L.ai.length) (hp:∀ p∈ps,0<=p.aG/\p.aG<L.ai.length)
 (h:(dw f c frm ps L).2=0),dQ L (dw f c frm ps L).1
 | [],L,hf,hp,h=>dQ.rfl
 | p::r,L,hf,hp,h=>by
   unfold dw at h ⊢
   cases hq:f p with
   | none =>
     rw[hq] at h;exact gI hf (fun q hq=>hp q (List.mem_cons_of_mem _ hq)) h
   | some x =>
     rw[hq] at h
     simp only at h ⊢
     by_cases h1:x.2=0
     ·rw[if_pos h1] at h ⊢;by_cases h2:(gu L (c p) x.1 frm p.aG).2=0
      ·rw[if_pos h2] at h ⊢;have k:=oG hf (hp p (List.mem_cons_self ..)) h2;exact k.trans (gI (by rw[k.len];exact hf) (fun q hq=>by rw[k.len];exact hp q (List.mem_cons_of_mem _ hq)) h)
      rw[if_neg h2] at h;exact absurd h h2
     rw[if_neg h1] at h;exact absurd h h1
theorem dQ.good {L M:aH} (h:dQ L M) (g:L.Good):M.Good:=by
 have hp:M.ai.map (·.parent)=L.ai.map (·.parent):=by
  have:=congrArg (List.map (fun x:Int×Bool×Int×Nat=>x.1)) h.ai
  simpa [List.map_map,Function.comp_def] using this
 have T:=g.things;refine⟨by rw[h.day];exact g.d0,by rw[h.day];exact g.d1,⟨by rw[h.aO];exact T.c0,by rw[h.aO];exact T.c1,by rw[h.ah];exact T.u1,by rw[h.af];exact T.i1,by rw[h.aO];exact T.aO,by rw[h.ah,h.aO];exact T.ah,by rw[h.ah];exact T.names,by rw[h.af,h.ah];exact T.af⟩,
  ⟨by rw[hp];exact g.accounts.tree,fun v a ha=>?_⟩,by rw[h.aB,h.len,h.af];exact g.aB,by rw[h.orders,h.len,h.af];exact g.orders,by rw[h.aF,h.aK,h.len,h.af];exact g.aK,fun o ho a ha=>?_⟩
 ·obtain⟨b,hb,e⟩:=rH h.ai ha;obtain⟨o1,o2,o3,o4,o5⟩:=g.accounts.ai v b hb
  simp only[Prod.mk.injEq] at e
  obtain⟨e1,e2,e3,e4⟩:=e;exact⟨by rw[h.aO,<-e4];exact o1,by rw[<-e3];exact o2,by rw[<-e3];exact o3,fun hv=>by rw[<-e2,<-e3];exact o4 hv,fun x hx=>h.fits (fun a ha x hx=>by
   obtain⟨n,hn⟩:=List.getElem?_of_mem ha;exact (g.accounts.ai n a hn).2.2.2.2 x hx) a (List.mem_of_getElem? ha) x hx⟩
 obtain⟨b,hb,e⟩:=rH h.ai ha
 simp only[Prod.mk.injEq] at e
 rw[h.orders] at ho;have:=g.ids o ho b hb;rw[e.2.2.1] at this;exact this
theorem Fz {L:aH} (h:L.Good) {n:Nat} (hn:n<L.af.length):(L.ins n).Ok L.ah.length:=by
 have:L.af[n]?=some (L.ins n):=getD_at L.af n _ hn;exact h.things.af _ (List.mem_of_getElem? this)
theorem FW {L:aH} (h:L.Good) {n:Nat} (hn:n<L.af.length) :
 (vK (L.ins n) (L.und (L.ins n).under) L.day).2=0/\0<=(vK (L.ins n) (L.und (L.ins n).under) L.day).1:=by
 have hi:=Fz h hn;have hu:=h.zu (n:=(L.ins n).under) hi.1 hi.2.1;obtain⟨_,_,_,p0,p1,v0,v1⟩:=hu;obtain⟨x,e,a,b⟩:=Cj hi (L.und (L.ins n).under).price (L.und (L.ins n).under).dL L.day (by omega) (by omega) v0 (by omega) h.d0 h.d1;unfold vK;rw[if_pos ⟨⟨by omega,p1⟩,v0,v1⟩,e];exact⟨rfl,a⟩
theorem Hg {L:aH} (h:L.Good) {n:Nat} {x:Int} (h0:0<=x) (h1:x<=100000000000000):aH.Good { L with af:=L.af.set n { L.ins n with mark:=x } }:=by
 by_cases hn:n<L.af.length
 ·have T:=h.things;obtain⟨x1,x2,x3,x4,_,_,x5⟩:=Fz h hn;refine⟨h.d0,h.d1,⟨T.c0,T.c1,T.u1,by simpa using T.i1,T.aO,T.ah,T.names,?_⟩,⟨h.accounts.tree,h.accounts.ai⟩,by simpa using h.aB,by simpa using h.orders,by simpa using h.aK,h.ids⟩;intro i hi;rcases List.mem_or_eq_of_mem_set hi with hi|hi
  ·exact T.af i hi
  rw[hi];exact⟨x1,x2,x3,x4,h0,h1,x5⟩
 rw[List.set_eq_of_length_le (by omega)];exact h
theorem lg {L:aH} (h:L.Good):(0:Int)<L.ai.length:=by
 have h2:2<=L.ai.length:=by simpa using h.accounts.tree.lo
 omega
structure jP (L M:aH):Prop where
 good:M.Good
 day:M.day=L.day
 aO:M.aO=L.aO
 ah:M.ah=L.ah
 af:M.af.map Ins.noMark=L.af.map Ins.noMark
 aB:M.aB=L.aB
 orders:M.orders=L.orders
 aF:M.aF=L.aF
 aK:M.aK=L.aK
 ai:M.ai.map (fun a=>(a.parent,a.flag,a.last,a.aV.length))=L.ai.map fun a=>(a.parent,a.flag,a.last,a.aV.length)
theorem jP.trans {L M N:aH} (h:jP L M) (k:jP M N):jP L N :=
 ⟨k.good,k.day.trans h.day,k.aO.trans h.aO,k.ah.trans h.ah,k.af.trans h.af,k.aB.trans h.aB,k.orders.trans h.orders,k.aF.trans h.aF,k.aK.trans h.aK,k.ai.trans h.ai⟩
theorem o8 {L:aH} (h:L.Good) {n:Nat} (hn:n<L.af.length) (he:(dS L n).2=0):jP L (dS L n).1:=by
 obtain⟨n1,n2⟩:=FW h hn;unfold dS at he ⊢;rw[if_pos n1] at he ⊢;by_cases h1:(vK (L.ins n) (L.und (L.ins n).under) L.day).1<=100000000000000
 ·rw[if_pos h1] at he ⊢;by_cases h2:(dw (ja L n) (fun _=>L.bU n) 0 L.aB L).2=0
  ·rw[if_pos h2];have k:=gI (f:=ja L n) (c:=fun _=>L.bU n) (frm:=0) (ps:=L.aB) (L:=L) ⟨Int.le_refl _,lg h⟩ (fun p hp=>by
    obtain⟨a1,a2,_⟩:=h.aB.all p hp;omega) h2
   have g:=Hg (k.good h) (n:=n) n2 h1;have ei:(dw (ja L n) (fun _=>L.bU n) 0 L.aB L).1.ins n=L.ins n:=by unfold aH.ins;rw[k.af]
   rw[ei,k.af] at g;exact⟨g,k.day,k.aO,k.ah,pW _ _ _ ⟨0,0,0,0,0,false,0⟩ _ hn rfl,k.aB,k.orders,k.aF,k.aK,k.ai⟩
  rw[if_neg h2] at he;exact absurd he h2
 rw[if_neg h1] at he;exact absurd he (by decide)
theorem lH:∀ {r:List Ins} {n:Nat} {L:aH} (h:L.Good) (hn:n+r.length<=L.af.length) (he:(gB n r L).2=0),jP L (gB n r L).1
 | [],n,L,h,hn,he=>⟨h,rfl,rfl,rfl,rfl,rfl,rfl,rfl,rfl,rfl⟩
 | i::r,n,L,h,hn,he=>by
   rw[List.length_cons] at hn;unfold gB at he ⊢;by_cases h1:i.aU=0\/L.day<=i.aU
   ·rw[if_pos h1] at he ⊢;by_cases h2:(dS L n).2=0
    ·rw[if_pos h2] at he ⊢;have k:=o8 h (by omega) h2;have e:(dS L n).1.af.length=L.af.length:=by have:=congrArg List.length k.af;simpa using this
     exact k.trans (lH k.good (by omega) he)
    rw[if_neg h2] at he;exact absurd he h2
   rw[if_neg h1] at he ⊢;exact lH h (by omega) he
theorem mW.filter {ps:List Pos} {a i:Nat} (h:mW ps a i) (f:Pos->Bool):mW (ps.filter f) a i :=
 ⟨Nat.le_trans (List.length_filter_le ..) h.len,fun p hp=>h.all p (List.mem_filter.1 hp).1,h.rise.sub Pos.Lt.trans List.filter_sublist⟩
theorem jv.filter {ps:List Ord} {a i:Nat} (h:jv ps a i) (f:Ord->Bool):jv (ps.filter f) a i :=
 ⟨Nat.le_trans (List.length_filter_le ..) h.len,fun p hp=>h.all p (List.mem_filter.1 hp).1,h.rise.sub Ord.Lt.trans List.filter_sublist⟩
theorem yg {α:Type} {lt:α->α->Prop}:iq lt []:=fun i a b ha=>by simp at ha
theorem xB {L:aH} (h:L.Good) (he:(jq L).err=0):(jq L).led.Good:=by
 unfold jq at he ⊢;by_cases h1:L.day<100000
 ·rw[if_pos h1] at he ⊢;by_cases h2:(gB 0 L.af L).2=0
  ·rw[if_pos h2];have k:=lH h (by simp) h2;have g:=k.good;have T:=g.things;have e:(gB 0 L.af L).1.af.length=L.af.length:=by have:=congrArg List.length k.af;simpa using this
   have P:=g.aB;rw[k.aB] at P;refine⟨by have:=h.d0;show 0<=L.day+1;omega,by show L.day+1<=100000;omega,⟨T.c0,T.c1,T.u1,T.i1,T.aO,T.ah,T.names,T.af⟩,⟨g.accounts.tree,g.accounts.ai⟩,P.filter _,⟨Nat.zero_le _,by simp,yg⟩,⟨by simp[e],Nat.zero_le _,?_,by simp,yg⟩,by simp⟩;intro q hq;rw[(List.mem_replicate.1 hq).2];decide
  rw[if_neg h2] at he;exact absurd he h2
 rw[if_neg h1] at he;exact absurd (iF he) (by decide)
theorem ru {L:aH} (h:L.Good) {u x:Int} (he:(iT L u x).err=0):(iT L u x).led.Good:=by
 unfold iT at he ⊢;by_cases h1:0<=u/\u<L.ah.length
 ·rw[if_pos h1] at he ⊢;by_cases h2:0<=x/\x<=1000000000000
  ·rw[if_pos h2] at he ⊢;by_cases h3:(dw (Dn L u x) (fun p=>L.bU p.instr) 0 L.aB L).2=0
   ·rw[if_pos h3];exact (gI ⟨Int.le_refl _,lg h⟩ (fun p hp=>by
     obtain⟨a1,a2,_⟩:=h.aB.all p hp;omega) h3).good h
   rw[if_neg h3] at he;exact absurd he h3
  rw[if_neg h2] at he;exact absurd (iF he) (by decide)
 rw[if_neg h1] at he;exact absurd (iF he) (by decide)
theorem vI {L:aH} (h:L.Good) {u:Int} {s:ByteArray} (he:(iD L u s).err=0):(iD L u s).led.Good:=by
 unfold iD at he ⊢;by_cases h1:0<=u/\u<L.ah.length
 ·rw[if_pos h1] at he ⊢;by_cases h2:nameB s=true/\∀ x∈L.ah,x.name≠s
  ·rw[if_pos h2];have T:=h.things;have ok:=T.ah u.toNat (L.und u) (getD_at L.ah u.toNat _ (by omega));refine⟨h.d0,h.d1,⟨T.c0,T.c1,by simpa using T.u1,T.i1,T.aO,Ff T.ah ⟨h2.1,ok.2⟩,?_,by simpa using T.af⟩,⟨h.accounts.tree,h.accounts.ai⟩,h.aB,h.orders,h.aK,h.ids⟩;intro n k a b hk ha hb
   simp only[List.getElem?_set] at ha hb
   split at ha
   ·rw[if_neg (by omega)] at hb
    split at ha
    ·cases ha;exact fun e=>h2.2 b (List.mem_of_getElem? hb) e
    cases ha
   split at hb
   ·split at hb
    ·cases hb;exact fun e=>h2.2 a (List.mem_of_getElem? ha) e.symm
    cases hb
   exact T.names n k a b hk ha hb
  rw[if_neg h2] at he;exact absurd (iF he) (by decide)
 rw[if_neg h1] at he;exact absurd (iF he) (by decide)
theorem LG (q:Nat):0<=(oz q false).1:=by
 unfold oz;by_cases h:4611686018427387904<q
 ·rw[if_pos h];exact Int.le_refl 0
 rw[if_neg h];exact Int.natCast_nonneg _
theorem FH {a b c m:Int} (ha:0<=a) (hb:0<=b) (hc:0<=c):0<=(lC a b c m).1:=by
 unfold lC
 split
 ·exact Int.le_refl _
 split
 ·exact Int.le_refl _
 have e:Ea a b c=false:=by unfold Ea;rw[decide_eq_false (by omega:¬ a<0),decide_eq_false (by omega:¬ b<0),decide_eq_false (by omega:¬ c<0)];rfl
 rw[e];exact LG _
theorem rU (num den q:Int):-1000000000<=(cZ num den q).1/\(cZ num den q).1<=1000000000:=by
 unfold cZ
 split
 ·split
  ·assumption
  exact⟨by show (-1000000000:Int)<=0;decide,by show (0:Int)<=1000000000;decide⟩
 exact⟨by show (-1000000000:Int)<=0;decide,by show (0:Int)<=1000000000;decide⟩
theorem Et {num den q:Int} (h0:0<=q) (h1:1<=num) (h2:1<=den):0<=(cZ num den q).1:=by
 unfold cZ
 split
 ·split
  ·exact FH h0 (by omega) (by omega)
  exact Int.le_refl 0
 exact Int.le_refl 0
theorem uP {u num den:Int} {m:Nat}:∀ {l:List Ins} {qs:List Int},l.length=qs.length->fA u num den m l qs=0->∀ i∈l,i.under=u->(pR num den i).Ok m
 | [],qs,hl,h,i,hi,e=>by cases hi
 | x::r,[],hl,h,i,hi,e=>by simp at hl
 | x::r,q::s,hl,h,i,hi,e=>by
   unfold fA at h;rcases List.mem_cons.1 hi with hi|hi
   ·subst hi;rw[if_pos e] at h
    split at h
    ·rename_i h1;unfold wO at h1
     split at h1
     ·split at h1
      ·split at h1
       ·assumption
       exact absurd h1 (by decide)
      rename_i h2;exact absurd h1 h2
     rename_i h2;exact absurd h1 h2
    rename_i h2;exact absurd h h2
   have hl':r.length=s.length:=by simpa using hl
   split at h
   ·split at h
    ·exact uP hl' h i hi e
    rename_i h2;exact absurd h h2
   exact uP hl' h i hi e
theorem xh {u num den:Int}:∀ {l:List Ins} {qs:List Int} {x:Int},x∈dZ u num den l qs->∃ q∈qs,x=q\/x=(cZ num den q).1
 | [],qs,x,h=>by simp[dZ] at h
 | i::r,[],x,h=>by simp[dZ] at h
 | i::r,q::s,x,h=>by
   unfold dZ at h;rw[List.zipWith_cons_cons] at h;rcases List.mem_cons.1 h with h|h
   ·refine⟨q,List.mem_cons_self ..,?_⟩;rw[h]
    split
    ·exact Or.inr rfl
    exact Or.inl rfl
   obtain⟨y,hy,e⟩:=xh (l:=r) (qs:=s) h;exact⟨y,List.mem_cons_of_mem _ hy,e⟩
theorem vY {L:aH} (h:L.Good) {u num den:Int} (hu:0<=u/\u<L.ah.length) (hn:1<=num) (hd:1<=den)
 (hok:eU.Ok { L.und u with price:=(fB num den (L.und u).price).1 } L.aO.length) (hi:fA u num den L.ah.length L.af L.aF=0):(L.split u num den).Good:=by
 have T:=h.things;have el:(eX u num den L.af).length=L.af.length:=by simp[eX]
 have hm:(L.ah.set u.toNat { L.und u with price:=(fB num den (L.und u).price).1 }).map (·.name)=L.ah.map (·.name):=pW _ _ _ ⟨⟨#[]⟩,0,0,0⟩ _ (by omega) rfl;refine⟨h.d0,h.d1,⟨T.c0,T.c1,by simpa [aH.split] using T.u1,by simpa [aH.split,el] using T.i1,T.aO,Ff T.ah hok,?_,?_⟩,⟨h.accounts.tree,h.accounts.ai⟩,
  by show mW L.aB L.ai.length (eX u num den L.af).length;rw[el];exact h.aB,by show jv L.orders L.ai.length (eX u num den L.af).length;rw[el];exact h.orders,?_,h.ids⟩
 ·intro n k a b hk ha hb;obtain⟨a',ha',ea⟩:=rH hm ha;obtain⟨b',hb',eb⟩:=rH hm hb;have:=T.names n k a' b' hk ha' hb';rw[ea,eb] at this;exact this
 ·intro i hi';have hi2:i∈eX u num den L.af:=hi';unfold eX at hi2;obtain⟨x,hx,rfl⟩:=List.mem_map.1 hi2
  show Ins.Ok _ (L.ah.set _ _).length
  rw[List.length_set]
  split
  ·rename_i e;exact uP h.aK.len.symm hi x hx e
  exact T.af x hx
 refine⟨?_,h.aK.DX,?_,?_,h.aK.rise⟩
 ·show (dZ u num den L.af L.aF).length=(eX u num den L.af).length
  rw[el];simp[dZ,h.aK.len]
 ·intro x hx;obtain⟨q,hq,e⟩:=xh (show x∈dZ u num den L.af L.aF from hx);obtain⟨q0,q1⟩:=h.aK.aF q hq;rcases e with e|e
  ·rw[e];exact⟨q0,q1⟩
  rw[e];exact⟨Et q0 hn hd,(rU _ _ _).2⟩
 show ∀ x∈L.aK,2<=x.aG/\x.aG<L.ai.length/\0<=x.instr/\x.instr<(eX u num den L.af).length/\_
 rw[el];exact h.aK.all
theorem qV {L:aH} {u num den:Int} {l:List Pos} {p:Pos} (h:p∈bf L u num den l):∃ p'∈l,p.aG=p'.aG/\p.instr=p'.instr/\(p.qty=p'.qty\/p.qty=(cZ num den p'.qty).1):=by
 unfold bf at h;obtain⟨x,hx,rfl⟩:=List.mem_map.1 h;refine⟨x,hx,?_⟩
 split
 ·exact⟨rfl,rfl,Or.inr rfl⟩
 exact⟨rfl,rfl,Or.inl rfl⟩
theorem pz {L:aH} {u num den:Int} {l:List Pos} (h:iq Pos.Lt l):iq Pos.Lt (bf L u num den l):=by
 intro n a b ha hb;unfold bf at ha hb;rw[List.getElem?_map] at ha hb
 cases hx:l[n]? with
 | none=>rw[hx] at ha;cases ha
 | some x =>
   cases hy:l[n+1]? with
   | none=>rw[hy] at hb;cases hb
   | some y =>
     rw[hx] at ha;rw[hy] at hb;have:=h n x y hx hy
     simp only[Option.map_some,Option.some.injEq] at ha hb
     subst ha hb;unfold Pos.Lt at *
     split <;> split <;> exact this
theorem oI {L:aH} (h:L.Good) {u num den:Int} (he:(bZ L u num den).err=0):(bZ L u num den).led.Good:=by
 unfold bZ at he ⊢;by_cases h1:0<=u/\u<L.ah.length
 ·rw[if_pos h1] at he ⊢;by_cases h2:1<=num/\num<=1000/\1<=den/\den<=1000
  ·rw[if_pos h2] at he ⊢;by_cases h3:(fB num den (L.und u).price).2=0
   ·rw[if_pos h3] at he ⊢;by_cases h4:eU.Ok { L.und u with price:=(fB num den (L.und u).price).1 } L.aO.length
    ·rw[if_pos h4] at he ⊢;by_cases h5:fA u num den L.ah.length L.af L.aF=0
     ·rw[if_pos h5] at he ⊢;by_cases h6:(dw (jK L u num den) (fun p=>L.bU p.instr) 1 L.aB (L.split u num den)).2=0
      ·rw[if_pos h6] at he ⊢;by_cases h7:iR L u num den L.aK=0
       ·rw[if_pos h7];have g0:=vY h h1 h2.1 h2.2.2.1 h4 h5;have k:=gI (f:=jK L u num den) (c:=fun p=>L.bU p.instr) (frm:=1) (ps:=L.aB) (L:=L.split u num den) ⟨by decide,by
         have h2:2<=L.ai.length:=by simpa using h.accounts.tree.lo
         show (1:Int)<L.ai.length
         omega⟩ (fun p hp=>by
         obtain⟨a1,a2,_⟩:=h.aB.all p hp;exact⟨by omega,a2⟩) h6
        have g:=k.good g0;have T:=g.things;have P:=g.aB;have O:=g.orders;have Q:=g.aK;rw[k.aB] at P;rw[k.orders] at O;rw[k.aF,k.aK] at Q;have D:=g.ids;rw[k.orders] at D;refine⟨g.d0,g.d1,⟨T.c0,T.c1,T.u1,T.i1,T.aO,T.ah,T.names,T.af⟩,⟨g.accounts.tree,g.accounts.ai⟩,⟨?_,?_,?_⟩,O.filter _,⟨by rw[<-k.aF] at Q;exact Q.len,?_,by rw[<-k.aF] at Q;exact Q.aF,?_,?_⟩,?_⟩
        ·exact Nat.le_trans (List.length_filter_le ..) (by simpa [bf] using h.aB.len)
        ·intro p hp;obtain⟨m,hq⟩:=List.mem_filter.1 hp;obtain⟨x,hx,e1,e2,e3⟩:=qV m;obtain⟨a1,a2,a3,a4,a5,a6,a7⟩:=P.all x hx;have hs:=rU num den x.qty;refine⟨by rw[e1];exact a1,by rw[e1];exact a2,by rw[e2];exact a3,by rw[e2];exact a4,by simpa using hq,?_,?_⟩ <;> rcases e3 with e3|e3 <;> rw[e3] <;> omega
        ·exact (pz h.aB.rise).sub Pos.Lt.trans List.filter_sublist
        ·exact Nat.le_trans (List.length_filter_le ..) (by simpa [bf] using h.aK.DX)
        ·intro p hp;obtain⟨m,hq⟩:=List.mem_filter.1 hp;obtain⟨x,hx,e1,e2,e3⟩:=qV m;obtain⟨a1,a2,a3,a4,a5,a6⟩:=Q.all x hx;have hs:=rU num den x.qty;have hq':0<p.qty:=by simpa using hq
         refine⟨by rw[e1];exact a1,by rw[e1];exact a2,by rw[e2];exact a3,by rw[e2];exact a4,by omega,?_⟩;rcases e3 with e3|e3 <;> rw[e3] <;> omega
        ·exact (pz h.aK.rise).sub Pos.Lt.trans List.filter_sublist
        intro o ho a ha;exact D o (List.mem_filter.1 ho).1 a ha
       rw[if_neg h7] at he;exact absurd he h7
      rw[if_neg h6] at he;exact absurd he h6
     rw[if_neg h5] at he;exact absurd he h5
    rw[if_neg h4] at he;exact absurd (iF he) (by decide)
   rw[if_neg h3] at he;exact absurd he h3
  rw[if_neg h2] at he;exact absurd (iF he) (by decide)
 rw[if_neg h1] at he;exact absurd (iF he) (by decide)
def aH.jU (L:aH) (a c:Int):Prop:=(0<=a/\a<L.ai.length)/\0<=c/\c<(L.acc a).aV.length
theorem zC {L:aH} {a c x v:Int} (ha:0<=a/\a<L.ai.length) (hv:0<=v) :
 (L.dK a c x).acc v=if a=v then { L.acc a with aV:=(L.acc a).aV.set c.toNat x } else L.acc v:=by
 unfold aH.dK
 show (L.ai.set a.toNat _).getD v.toNat _=_
 rw[List.getD_eq_getElem?_getD,List.getElem?_set];by_cases e:a=v
 ·subst e;rw[if_pos rfl,if_pos (by omega),if_pos rfl];rfl
 rw[if_neg (by omega),if_neg e];unfold aH.acc;rw[List.getD_eq_getElem?_getD]
theorem aH.jU.set {L:aH} {a c x b d:Int} (h:L.jU b d) (ha:0<=a/\a<L.ai.length):(L.dK a c x).jU b d:=by
 obtain⟨h1,h2,h3⟩:=h;refine⟨⟨h1.1,by simpa [aH.dK] using h1.2⟩,h2,?_⟩;rw[zC ha h1.1];by_cases e:a=b
 ·subst e;rw[if_pos rfl];simpa using h3
 rw[if_neg e];exact h3
theorem dQ.has {L M:aH} (h:dQ L M) {a c:Int} (k:L.jU a c):M.jU a c:=by
 obtain⟨k1,k2,k3⟩:=k;refine⟨by rw[h.len];exact k1,k2,?_⟩;have hA:=getD_at M.ai a.toNat ⟨-1,[],false,0⟩ (by rw[h.len];omega);obtain⟨b,hb,e⟩:=rH h.ai hA;have hB:=getD_at L.ai a.toNat ⟨-1,[],false,0⟩ (by omega);rw[hb] at hB;cases hB
 simp only[Prod.mk.injEq] at e
 show c<(M.ai.getD a.toNat _).aV.length
 rw[<-e.2.2.2];exact k3
noncomputable def iV (L:aH) (k:Nat) (u a b:Int) (s:ByteArray):wu :=
 match k with
 | 0=>jq L
 | 1=>bZ L u a b
 | 2=>iT L u a
 | _=>iD L u s
theorem uZ {L:aH} (h:L.Good) {k:Nat} {u a b:Int} {s:ByteArray} (he:(iV L k u a b s).err=0):(iV L k u a b s).led.Good:=by
 unfold iV at he ⊢
 split at he
 ·exact xB h he
 ·exact oI h he
 ·exact ru h he
 exact vI h he
theorem aH.Good.has {L:aH} (h:L.Good) {a c:Int} (ha:0<=a/\a<L.ai.length) (hc:0<=c/\c<L.aO.length):L.jU a c:=by
 refine⟨ha,hc.1,?_⟩;have hA:=getD_at L.ai a.toNat ⟨-1,[],false,0⟩ (by omega);have:=(h.accounts.ai _ _ hA).1
 show c<(L.ai.getD a.toNat _).aV.length
 rw[this];exact hc.2
theorem aH.Good.kY {L:aH} (h:L.Good) {n:Int} (h0:0<=n) (h1:n<L.af.length):0<=L.bU n/\L.bU n<L.aO.length:=by
 have hi:=h.DR h0 h1;have hu:=h.zu hi.1 hi.2.1;exact⟨hu.2.1,hu.2.2.1⟩
theorem aH.Good.two {L:aH} (h:L.Good):(1:Int)<L.ai.length:=by
 have h2:2<=L.ai.length:=by simpa using h.accounts.tree.lo
 omega
theorem aH.jU.ai {L M:aH} (e:M.ai=L.ai) {a c:Int} (h:L.jU a c):M.jU a c:=by
 unfold aH.jU aH.acc at *;rw[e];exact h
theorem jP.len {L M:aH} (h:jP L M):M.ai.length=L.ai.length:=by
 have:=congrArg List.length h.ai
 simpa using this
theorem Ew {L:aH} {u num den:Int} (he:(bZ L u num den).err=0) :
 (0<=u/\u<L.ah.length)/\(1<=num/\num<=1000/\1<=den/\den<=1000)/\(fB num den (L.und u).price).2=0/\eU.Ok { L.und u with price:=(fB num den (L.und u).price).1 } L.aO.length /\
 fA u num den L.ah.length L.af L.aF=0/\(dw (jK L u num den) (fun p=>L.bU p.instr) 1 L.aB (L.split u num den)).2=0/\iR L u num den L.aK=0 /\
 bZ L u num den=⟨{ (dw (jK L u num den) (fun p=>L.bU p.instr) 1 L.aB (L.split u num den)).1 with aB:=(bf L u num den L.aB).filter (fun p=>decide (p.qty≠0)),aK:=(bf L u num den L.aK).filter (fun p=>decide (0<p.qty)),orders:=L.orders.filter (fun o=>!L.over u o.instr) },u,0⟩:=by
 unfold bZ at he ⊢;by_cases h1:0<=u/\u<L.ah.length
 ·rw[if_pos h1] at he ⊢;by_cases h2:1<=num/\num<=1000/\1<=den/\den<=1000
  ·rw[if_pos h2] at he ⊢;by_cases h3:(fB num den (L.und u).price).2=0
   ·rw[if_pos h3] at he ⊢;by_cases h4:eU.Ok { L.und u with price:=(fB num den (L.und u).price).1 } L.aO.length
    ·rw[if_pos h4] at he ⊢;by_cases h5:fA u num den L.ah.length L.af L.aF=0
     ·rw[if_pos h5] at he ⊢;by_cases h6:(dw (jK L u num den) (fun p=>L.bU p.instr) 1 L.aB (L.split u num den)).2=0
      ·rw[if_pos h6] at he ⊢;by_cases h7:iR L u num den L.aK=0
       ·rw[if_pos h7];exact⟨h1,h2,h3,h4,h5,h6,h7,rfl⟩
       rw[if_neg h7] at he;exact absurd he h7
      rw[if_neg h6] at he;exact absurd he h6
     rw[if_neg h5] at he;exact absurd he h5
    rw[if_neg h4] at he;exact absurd (iF he) (by decide)
   rw[if_neg h3] at he;exact absurd he h3
  rw[if_neg h2] at he;exact absurd (iF he) (by decide)
 rw[if_neg h1] at he;exact absurd (iF he) (by decide)
end Go.Bw
namespace Go.Proofs.YtfknkmlocbojhaaGreatDoor
open Go.RowKit Go.Bw Go.Maps Go.Shelf Go.Bw.Fall
theorem uH {L:aH} {r:wu} (hr:L.Good->r.err=0->r.led.Good) (h:(dV L r).2.2=0):(dV L r).1.Good/\fD (dV L r).1=((dV L r).1,0):=by
 obtain⟨hg,he,hf,e,_⟩:=zG h;rw[e];have g:=sH (hr hg he) hf;exact⟨g.2,kz g.2 (yO g.1)⟩
theorem lK {L:aH} {k:Nat} {u a b:Int} {s:ByteArray} (h:(dV L (iV L k u a b s)).2.2=0) :
 (dV L (iV L k u a b s)).1.Good/\fD (dV L (iV L k u a b s)).1=((dV L (iV L k u a b s)).1,0) :=
 uH (fun hg he=>uZ hg he) h
end Go.Proofs.YtfknkmlocbojhaaGreatDoor
namespace Go.Bw
open Classical
def Acc.shape (a:Acc):Int×Bool×Int×Nat:=(a.parent,a.flag,a.last,a.aV.length)
theorem zU {L:aH} (h:L.Good) (he:(jq L).err=0) :
 (jq L).led.day=L.day+1/\(jq L).num=L.day+1/\(jq L).led.orders=[]/\(jq L).led.aK=[]/\(jq L).led.aF=List.replicate L.af.length 0 /\
 (jq L).led.aB=L.aB.filter (fun p=>gJ L.day (L.ins p.instr))/\(jq L).led.aO=L.aO/\(jq L).led.ah=L.ah /\
 (jq L).led.af.map Ins.noMark=L.af.map Ins.noMark/\(jq L).led.ai.map Acc.shape=L.ai.map Acc.shape:=by
 unfold jq at he ⊢;by_cases h1:L.day<100000
 ·rw[if_pos h1] at he ⊢;by_cases h2:(gB 0 L.af L).2=0
  ·rw[if_pos h2];have k:=lH h (by simp) h2;exact⟨rfl,rfl,rfl,rfl,rfl,rfl,k.aO,k.ah,k.af,k.ai⟩
  rw[if_neg h2] at he;exact absurd he h2
 rw[if_neg h1] at he;exact absurd (iF he) (by decide)
theorem zY {L:aH} (h:L.Good) {u x:Int} (he:(iT L u x).err=0):dQ L (iT L u x).led/\(iT L u x).num=u/\0<=u/\u<L.ah.length:=by
 unfold iT at he ⊢;by_cases h1:0<=u/\u<L.ah.length
 ·rw[if_pos h1] at he ⊢;by_cases h2:0<=x/\x<=1000000000000
  ·rw[if_pos h2] at he ⊢;by_cases h3:(dw (Dn L u x) (fun p=>L.bU p.instr) 0 L.aB L).2=0
   ·rw[if_pos h3];exact⟨gI ⟨Int.le_refl _,lg h⟩ (fun p hp=>by
     obtain⟨a1,a2,_⟩:=h.aB.all p hp;omega) h3,rfl,h1⟩
   rw[if_neg h3] at he;exact absurd he h3
  rw[if_neg h2] at he;exact absurd (iF he) (by decide)
 rw[if_neg h1] at he;exact absurd (iF he) (by decide)
theorem Ia {L:aH} {u:Int} {s:ByteArray} (he:(iD L u s).err=0) :
 (0<=u/\u<L.ah.length)/\iD L u s=⟨{ L with ah:=L.ah.set u.toNat { L.und u with name:=s } },u,0⟩:=by
 unfold iD at he ⊢;by_cases h1:0<=u/\u<L.ah.length
 ·rw[if_pos h1] at he ⊢;by_cases h2:nameB s=true/\∀ x∈L.ah,x.name≠s
  ·rw[if_pos h2];exact⟨h1,rfl⟩
  rw[if_neg h2] at he;exact absurd (iF he) (by decide)
 rw[if_neg h1] at he;exact absurd (iF he) (by decide)
theorem wS {L:aH} (h:L.Good) {u num den:Int} (he:(bZ L u num den).err=0) :
 (0<=u/\u<L.ah.length)/\(bZ L u num den).num=u/\(bZ L u num den).led.day=L.day/\(bZ L u num den).led.aO=L.aO /\
 (bZ L u num den).led.ah=L.ah.set u.toNat { L.und u with price:=(fB num den (L.und u).price).1 } /\
 (bZ L u num den).led.af=eX u num den L.af/\(bZ L u num den).led.ai.map Acc.shape=L.ai.map Acc.shape:=by
 obtain⟨h1,h2,h3,h4,h5,h6,h7,e⟩:=Ew he;have K:=gI (f:=jK L u num den) (c:=fun p=>L.bU p.instr) (frm:=1) (ps:=L.aB) (L:=L.split u num den) ⟨by decide,h.two⟩ (fun p hp=>by
  obtain⟨a1,a2,_⟩:=h.aB.all p hp;exact⟨by omega,a2⟩) h6
 rw[e];exact⟨h1,rfl,K.day,K.aO,K.ah,K.af,K.ai⟩
end Go.Bw
namespace Go.Proofs.YtfknkmlocbojhaaGreatDoor
open Go.RowKit Go.Bw Go.Maps Go.Shelf Go.Bw.Fall
def nN:aH:=⟨0,[⟨1000000,0⟩],[⟨⟨#[65]⟩,0,101,0⟩],[⟨1,0,1,0,0,false,101⟩],[⟨-1,[0],false,0⟩,⟨-1,[0],false,0⟩,⟨-1,[1000],false,0⟩],[⟨2,0,5⟩],[],[0],[]⟩
def rC:aH:=⟨0,[⟨1000000,0⟩],[⟨⟨#[65]⟩,0,67,0⟩],[⟨1,0,1,0,0,false,67⟩],[⟨-1,[0],false,0⟩,⟨-1,[-36],false,0⟩,⟨-1,[1036],false,0⟩],[⟨2,0,7⟩],[],[0],[]⟩
def wJ:aH:=⟨0,[⟨1000000,0⟩],[⟨⟨#[65]⟩,0,101,0⟩],[⟨1,0,1,0,0,false,101⟩],[⟨-1,[-20],false,0⟩,⟨-1,[0],false,0⟩,⟨-1,[1020],false,0⟩],[⟨2,0,5⟩],[],[0],[]⟩
theorem Ec {α:Type} {x:α} {n:Nat} {y:α} (h:[x][n]?=some y):n=0/\y=x:=by
 have h1:=(List.getElem?_eq_some_iff.1 h).1;have:n=0:=by simpa using h1
 subst this;exact⟨rfl,by simpa using h.symm⟩
theorem vT {α:Type} {lt:α->α->Prop} {l:List α} (h:l.length<=1):iq lt l:=fun i a b ha hb=>by
 have:=(List.getElem?_eq_some_iff.1 hb).1;omega
theorem qH:nN.Good:=by
 refine⟨by decide,by decide,⟨by decide,by decide,by decide,by decide,?_,?_,?_,?_⟩,⟨⟨by decide,by decide,?_⟩,?_⟩,⟨by decide,?_,vT (by decide)⟩,⟨by decide,by simp[nN],vT (by decide)⟩,⟨by decide,by decide,?_,?_,vT (by decide)⟩,by simp[nN]⟩
 ·intro n c hc;obtain⟨rfl,rfl⟩:=Ec hc;exact⟨by decide,by decide,by decide,by decide,fun _=>rfl⟩
 ·intro n c hc;obtain⟨rfl,rfl⟩:=Ec hc;exact⟨by decide,by decide,by decide,by decide,by decide,by decide,by decide⟩
 ·intro n k u v hk hu;obtain⟨rfl,rfl⟩:=Ec hu;omega
 ·intro i hi
  simp only[nN,List.mem_cons,List.not_mem_nil,or_false] at hi
  subst hi;exact⟨by decide,by decide,by decide,by decide,by decide,by decide,Or.inl (by decide)⟩
 ·intro v p hp
  left
  have:=List.mem_of_getElem? hp
  simpa [nN] using this
 ·intro v a ha
  match v,ha with
  | 0,ha=>cases ha;exact⟨rfl,by decide,by decide,fun _=>⟨rfl,rfl⟩,by decide⟩
  | 1,ha=>cases ha;exact⟨rfl,by decide,by decide,fun _=>⟨rfl,rfl⟩,by decide⟩
  | 2,ha=>cases ha;exact⟨rfl,by decide,by decide,fun h=>by omega,by decide⟩
  | v+3,ha=>simp[nN] at ha
 ·intro p hp
  simp only[nN,List.mem_cons,List.not_mem_nil,or_false] at hp
  subst hp;exact⟨by decide,by decide,by decide,by decide,by decide,by decide,by decide⟩
 ·intro q hq
  simp only[nN,List.mem_cons,List.not_mem_nil,or_false] at hq
  subst hq;decide
 intro x hx;simp[nN] at hx
theorem qG:iT nN 0 4=⟨wJ,0,0⟩:=by
 unfold iT;rw[if_pos (by decide),if_pos (by decide),if_pos (by decide +kernel)];have:(dw (Dn nN 0 4) (fun p=>nN.bU p.instr) 0 nN.aB nN).1=wJ:=by kernel_rfl
 rw[this]
theorem mD:bZ nN 0 3 2=⟨rC,0,0⟩:=by
 unfold bZ;rw[if_pos (by decide),if_pos (by decide),if_pos (by decide +kernel),if_pos ⟨by decide +kernel,by decide,by decide,by decide +kernel,by decide +kernel,by decide,by decide⟩,if_pos ?_,if_pos (by decide +kernel),if_pos (by decide +kernel)]
 ·have:(dw (jK nN 0 3 2) (fun p=>nN.bU p.instr) 1 nN.aB (nN.split 0 3 2)).1={ rC with aB:=nN.aB }:=by kernel_rfl
  rw[this];have e1:(bf nN 0 3 2 nN.aB).filter (fun p=>decide (p.qty≠0))=rC.aB:=by kernel_rfl
  have e2:(bf nN 0 3 2 nN.aK).filter (fun p=>decide (0<p.qty))=rC.aK:=by kernel_rfl
  rw[e1,e2];rfl
 show fA 0 3 2 1 [⟨1,0,1,0,0,false,101⟩] [0]=0
 unfold fA;have e:wO 3 2 1 ⟨1,0,1,0,0,false,101⟩ 0=0:=by
  unfold wO;rw[if_pos (by decide +kernel),if_pos (by decide +kernel),if_pos ⟨by decide,by decide,by decide,by decide,by decide +kernel,by decide +kernel,Or.inl ⟨by decide,by decide +kernel,by decide,by decide⟩⟩];decide +kernel
 rw[if_pos rfl,if_pos e];rfl
theorem Dp:fM rC=some rC:=by kernel_rfl
theorem Dq:fM wJ=some wJ:=by kernel_rfl
theorem GK:rC.Good:=by
 have:=oI qH (u:=0) (num:=3) (den:=2) (by rw[mD]);rw[mD] at this;exact this
theorem GN:wJ.Good:=by
 have:=ru qH (u:=0) (x:=4) (by rw[qG]);rw[qG] at this;exact this
theorem Dt:dV nN (bZ nN 0 3 2)=(rC,0,0):=by
 have hf:=kz GK Dp;rw[uq qH (by rw[mD]) (by rw[mD,hf]),mD,hf]
theorem Jt:dV nN (iT nN 0 4)=(wJ,0,0):=by
 have hf:=kz GN Dq;rw[uq qH (by rw[qG]) (by rw[qG,hf]),qG,hf]
end Go.Proofs.YtfknkmlocbojhaaGreatDoor
namespace Go.Proofs.YtfknkmlocbojhaaGreatDoor
open Go.RowKit Go.Bw Go.Maps Go.Shelf
theorem Bz {i:Ins} {q v:Int} (hq:aX q=true):jJ [q,i.mult,v] 1=dW i q v:=by
 have h1:fP 1 q=(q,0):=by rw[nC,Int.one_mul,if_pos ⟨rfl,hq,hq⟩]
 unfold jJ;rw[h1]
 simp only[ne_eq,not_true_eq_false,if_false]
 unfold jJ dW;by_cases h2:(fP q i.mult).2=0
 ·rw[if_neg (fun h=>h h2),if_pos h2];unfold jJ;by_cases h3:(fP (fP q i.mult).1 v).2=0
  ·rw[if_neg (fun h=>h h3)];unfold jJ;exact Prod.ext rfl h3.symm
  rw[if_pos h3];rcases iZ (fP q i.mult).1 v with e|e
  ·exact absurd e.1 h3
  rw[e]
 rw[if_pos h2,if_neg h2]
end Go.Proofs.YtfknkmlocbojhaaGreatDoor
