/- Joined: LifP, LifQ, LifR, LifT, LifS, LifU, LifV, LifW, LifX, LifE, LifY. -/
import Derived.Test.YtfknkmlocbojhaaGreatDoorGm
import Derived.Test.YtfknkmlocbojhaaGreatDoorGn
import Derived.Test.YtfknkmlocbojhaaGreatDoorGc
set_option linter.unusedVariables false
set_option linter.unusedSimpArgs false
namespace Go.Bw
open Classical
def aI.none:aI:=⟨0,[],[],[],[],[],[],[],[]⟩
def aI.aK (L:aI) (a c:Int):Int:=(L.acc a).aK.getD c.toNat 0
def aI.dP (L:aI) (a c x:Int):aI:={ L with ai:=L.ai.set a.toNat { L.acc a with aK:=(L.acc a).aK.set c.toNat x } }
def gI (L:aI) (c x f t:Int):aI×Int :=
 if (iO (L.aK f c) x).2=0 then
  if (fK ((L.dP f c (iO (L.aK f c) x).1).aK t c) x).2=0 then
   ((L.dP f c (iO (L.aK f c) x).1).dP t c (fK ((L.dP f c (iO (L.aK f c) x).1).aK t c) x).1,0)
  else (aI.none,(fK ((L.dP f c (iO (L.aK f c) x).1).aK t c) x).2)
 else (aI.none,(iO (L.aK f c) x).2)
def dh (f:Pos -> Option (Int×Int)) (c:Pos -> Int) (frm:Int):List Pos -> aI -> aI×Int
 | [],L=>(L,0)
 | p::r,L=>match f p with
   | .none=>dh f c frm r L
   | .some x=>if x.2=0 then (if (gI L (c p) x.1 frm p.aJ).2=0 then dh f c frm r (gI L (c p) x.1 frm p.aJ).1 else (aI.none,(gI L (c p) x.1 frm p.aJ).2)) else (aI.none,x.2)
def aI.bH (L:aI) (n:Int):Int:=(L.und (L.ins n).under).cur
def dB (i:Ins) (q v:Int):Int×Int:=if (fV q i.mult).2=0 then fV (fV q i.mult).1 v else (0,(fV q i.mult).2)
def gZ (L:aI) (n:Nat) (p:Pos):Option (Int×Int):=if p.instr=n then some (dB (L.ins n) p.qty ((pF (L.ins n) (L.und (L.ins n).under) L.day).1 - (L.ins n).mark)) else .none
def dA (L:aI) (n:Nat):aI×Int :=
 if (pF (L.ins n) (L.und (L.ins n).under) L.day).2=0 then
  if (pF (L.ins n) (L.und (L.ins n).under) L.day).1 <= 100000000000000 then
   if (dh (gZ L n) (fun _=>L.bH n) 0 L.ak L).2=0 then
    ({ (dh (gZ L n) (fun _=>L.bH n) 0 L.ak L).1 with af:=L.af.set n { L.ins n with mark:=(pF (L.ins n) (L.und (L.ins n).under) L.day).1 } },0)
   else (aI.none,(dh (gZ L n) (fun _=>L.bH n) 0 L.ak L).2)
  else (aI.none,4)
 else (aI.none,(pF (L.ins n) (L.und (L.ins n).under) L.day).2)
def eU:Nat -> List Ins -> aI -> aI×Int
 | _,[],L=>(L,0)
 | n,i::r,L=>if i.aO=0 \/ L.day <= i.aO then (if (dA L n).2=0 then eU (n+1) r (dA L n).1 else (aI.none,(dA L n).2)) else eU (n+1) r L
def mX (day:Int) (i:Ins):Bool:=decide (i.aO≠day \/ day=0)
def jf (L:aI):xA :=
 if L.day<100000 then
  if (eU 0 L.af L).2=0 then
   ⟨{ (eU 0 L.af L).1 with day:=L.day+1,ak:=L.ak.filter (fun p=>mX L.day (L.ins p.instr)),orders:=[],aP:=[],aG:=List.replicate L.af.length 0 },L.day+1,0⟩
  else .no (eU 0 L.af L).2
 else .no 41
def Ep (L:aI) (u x:Int) (p:Pos):Option (Int×Int):=if (L.ins p.instr).under=u /\ (L.ins p.instr).kind=1 then some (dB (L.ins p.instr) p.qty x) else .none
def jL (L:aI) (u x:Int):xA :=
 if 0 <= u /\ u<L.ah.length then
  if 0 <= x /\ x <= 1000000000000 then
   if (dh (Ep L u x) (fun p=>L.bH p.instr) 0 L.ak L).2=0 then ⟨(dh (Ep L u x) (fun p=>L.bH p.instr) 0 L.ak L).1,u,0⟩
   else .no (dh (Ep L u x) (fun p=>L.bH p.instr) 0 L.ak L).2
  else .no 1
 else .no 31
noncomputable def jk (L:aI) (u:Int) (s:ByteArray):xA :=
 if 0 <= u /\ u<L.ah.length then
  if nameB s=true /\ ∀ x∈L.ah,x.name≠s then ⟨{ L with ah:=L.ah.set u.toNat { L.und u with name:=s } },u,0⟩ else .no 42
 else .no 31
def gB (num den v:Int):Int×Int:=kz v den num 0
def dI (num den q:Int):Int×Int :=
 if (kz q num den 2).2=0 then (if -1000000000 <= (kz q num den 2).1 /\ (kz q num den 2).1 <= 1000000000 then ((kz q num den 2).1,0) else (0,36)) else (0,(kz q num den 2).2)
def rq (num den:Int) (i:Ins):Ins:={ i with strike:=(gB num den i.strike).1,mark:=(gB num den i.mark).1 }
noncomputable def zl (num den:Int) (ah:Nat) (i:Ins) (q:Int):Int :=
 if (gB num den i.strike).2=0 then
  if (gB num den i.mark).2=0 then
   if (rq num den i).Ok ah then (dI num den q).2 else 37
  else (gB num den i.mark).2
 else (gB num den i.strike).2
noncomputable def gK (u num den:Int) (ah:Nat):List Ins -> List Int -> Int
 | i::r,q::s=>if i.under=u then (if zl num den ah i q=0 then gK u num den ah r s else zl num den ah i q) else gK u num den ah r s
 | _,_=>0
def fQ (u num den:Int) (l:List Ins):List Ins:=l.map fun i=>if i.under=u then rq num den i else i
def gm (u num den:Int) (l:List Ins) (qs:List Int):List Int:=List.zipWith (fun i q=>if i.under=u then (dI num den q).1 else q) l qs
def nN (num den:Int) (i:Ins) (q:Int):Int×Int :=
 if (dB i q i.mark).2=0 then
  if (dI num den q).2=0 then
   if (dB i (dI num den q).1 (gB num den i.mark).1).2=0 then iO (dB i q i.mark).1 (dB i (dI num den q).1 (gB num den i.mark).1).1
   else (0,(dB i (dI num den q).1 (gB num den i.mark).1).2)
  else (0,(dI num den q).2)
 else (0,(dB i q i.mark).2)
def aI.over (L:aI) (u:Int) (n:Int):Bool:=decide ((L.ins n).under=u)
def jh (L:aI) (u num den:Int) (p:Pos):Option (Int×Int):=if L.over u p.instr=true then some (nN num den (L.ins p.instr) p.qty) else .none
def bg (L:aI) (u num den:Int) (l:List Pos):List Pos:=l.map fun p=>if L.over u p.instr=true then { p with qty:=(dI num den p.qty).1 } else p
def jO (L:aI) (u num den:Int):List Pos -> Int
 | []=>0
 | p::r=>if L.over u p.instr=true then (if (dI num den p.qty).2=0 then jO L u num den r else (dI num den p.qty).2) else jO L u num den r
def aI.split (L:aI) (u num den:Int):aI:={ L with ah:=L.ah.set u.toNat { L.und u with price:=(gB num den (L.und u).price).1 },af:=fQ u num den L.af,aG:=gm u num den L.af L.aG }
noncomputable def dw (L:aI) (u num den:Int):xA :=
 if 0 <= u /\ u<L.ah.length then
  if 1 <= num /\ num <= 1000 /\ 1 <= den /\ den <= 1000 then
   if (gB num den (L.und u).price).2=0 then
    if gJ.Ok { L.und u with price:=(gB num den (L.und u).price).1 } L.aT.length then
     if gK u num den L.ah.length L.af L.aG=0 then
      if (dh (jh L u num den) (fun p=>L.bH p.instr) 1 L.ak (L.split u num den)).2=0 then
       if jO L u num den L.aP=0 then
        ⟨{ (dh (jh L u num den) (fun p=>L.bH p.instr) 1 L.ak (L.split u num den)).1 with ak:=(bg L u num den L.ak).filter (fun p=>decide (p.qty≠0)),aP:=(bg L u num den L.aP).filter (fun p=>decide (0<p.qty)),orders:=L.orders.filter (fun o=>!L.over u o.instr) },u,0⟩
       else .no (jO L u num den L.aP)
      else .no (dh (jh L u num den) (fun p=>L.bH p.instr) 1 L.ak (L.split u num den)).2
     else .no (gK u num den L.ah.length L.af L.aG)
    else .no 37
   else .no (gB num den (L.und u).price).2
  else .no 1
 else .no 31
structure fF (L M:aI):Prop where
 day:M.day=L.day
 aT:M.aT=L.aT
 ah:M.ah=L.ah
 af:M.af=L.af
 ak:M.ak=L.ak
 orders:M.orders=L.orders
 aG:M.aG=L.aG
 aP:M.aP=L.aP
 ai:M.ai.map (fun a=>(a.parent,a.flag,a.last,a.aK.length))=L.ai.map fun a=>(a.parent,a.flag,a.last,a.aK.length)
 fits:(∀ a∈L.ai,∀ x∈a.aK,aY x=true) -> ∀ a∈M.ai,∀ x∈a.aK,aY x=true
theorem fF.rfl {L:aI}:fF L L:=⟨.refl _,.refl _,.refl _,.refl _,.refl _,.refl _,.refl _,.refl _,.refl _,fun h=>h⟩
theorem fF.trans {L M N:aI} (h:fF L M) (k:fF M N):fF L N :=
 ⟨k.day.trans h.day,k.aT.trans h.aT,k.ah.trans h.ah,k.af.trans h.af,k.ak.trans h.ak,k.orders.trans h.orders,k.aG.trans h.aG,k.aP.trans h.aP,k.ai.trans h.ai,fun x=>k.fits (h.fits x)⟩
theorem rM (L:aI) (a c x:Int) (ha:0 <= a /\ a<L.ai.length) (hx:aY x=true):fF L (L.dP a c x):=by
 have hA:=getD_at L.ai a.toNat ⟨-1,[],false,0⟩ (by omega);refine⟨.refl _,.refl _,.refl _,.refl _,.refl _,.refl _,.refl _,.refl _,rZ _ _ _ ⟨-1,[],false,0⟩ _ (by omega) ?_,fun h b hb y hy=>?_⟩
 ·show (_,_,_,_)=(_,_,_,_)
  simp[aI.acc]
 rcases List.mem_or_eq_of_mem_set hb with hb|hb
 ·exact h b hb y hy
 subst hb;rcases List.mem_or_eq_of_mem_set hy with hy|hy
 ·exact h _ (List.mem_of_getElem? hA) y hy
 rw[hy];exact hx
theorem zJ {a b:Int} (h:(fK a b).2=0):aY (fK a b).1=true:=by
 unfold fK at h ⊢
 split at h
 ·rename_i h4;rw[if_pos h4];exact h4.2.2
 cases h
theorem vF {a b:Int} (h:(iO a b).2=0):aY (iO a b).1=true:=by
 unfold iO at h ⊢
 split at h
 ·rename_i h4;rw[if_pos h4];exact h4.2.2
 cases h
theorem lN {L:aI} {c x f t:Int} (hf:0 <= f /\ f<L.ai.length) (ht:0 <= t /\ t<L.ai.length) (h:(gI L c x f t).2=0):fF L (gI L c x f t).1:=by
 unfold gI at h ⊢
 split at h
 ·rename_i h1;rw[if_pos h1]
  split at h
  ·rename_i h2;rw[if_pos h2];have k:=rM L f c _ hf (vF h1);exact k.trans (rM _ t c _ ⟨ht.1,by simpa [aI.dP] using ht.2⟩ (zJ h2))
  rename_i h2;exact absurd h h2
 rename_i h1;exact absurd h h1
theorem fF.len {L M:aI} (h:fF L M):M.ai.length=L.ai.length:=by
 have:=congrArg List.length h.ai
 simpa using this
theorem iJ {f:Pos -> Option (Int×Int)} {c:Pos -> Int} {frm:Int}:∀ {ps:List Pos} {L:aI} (hf:0 <= frm /\ frm<L.ai.length) (hp:∀ p∈ps,0 <= p.aJ /\ p.aJ<L.ai.length)
 (h:(dh f c frm ps L).2=0),fF L (dh f c frm ps L).1
 | [],L,hf,hp,h=>fF.rfl
 | p::r,L,hf,hp,h=>by
   unfold dh at h ⊢
   cases hq:f p with
   | none =>
     rw[hq] at h;exact iJ hf (fun q hq=>hp q (List.mem_cons_of_mem _ hq)) h
   | some x =>
     rw[hq] at h
     simp only at h ⊢
     by_cases h1:x.2=0
     ·rw[if_pos h1] at h ⊢;by_cases h2:(gI L (c p) x.1 frm p.aJ).2=0
      ·rw[if_pos h2] at h ⊢;have k:=lN hf (hp p (List.mem_cons_self ..)) h2;exact k.trans (iJ (by rw[k.len];exact hf) (fun q hq=>by rw[k.len];exact hp q (List.mem_cons_of_mem _ hq)) h)
      rw[if_neg h2] at h;exact absurd h h2
     rw[if_neg h1] at h;exact absurd h h1
theorem fF.good {L M:aI} (h:fF L M) (g:L.Good):M.Good:=by
 have hp:M.ai.map (·.parent)=L.ai.map (·.parent):=by
  have:=congrArg (List.map (fun x:Int×Bool×Int×Nat=>x.1)) h.ai
  simpa [List.map_map,Function.comp_def] using this
 have T:=g.things;refine⟨by rw[h.day];exact g.d0,by rw[h.day];exact g.d1,⟨by rw[h.aT];exact T.c0,by rw[h.aT];exact T.c1,by rw[h.ah];exact T.u1,by rw[h.af];exact T.i1,by rw[h.aT];exact T.aT,by rw[h.ah,h.aT];exact T.ah,by rw[h.ah];exact T.names,by rw[h.af,h.ah];exact T.af⟩,
  ⟨by rw[hp];exact g.accounts.tree,fun v a ha=>?_⟩,by rw[h.ak,h.len,h.af];exact g.ak,by rw[h.orders,h.len,h.af];exact g.orders,by rw[h.aG,h.aP,h.len,h.af];exact g.aP,fun o ho a ha=>?_⟩
 ·obtain⟨b,hb,e⟩:=uX h.ai ha;obtain⟨o1,o2,o3,o4,o5⟩:=g.accounts.ai v b hb
  simp only[Prod.mk.injEq] at e
  obtain⟨e1,e2,e3,e4⟩:=e;exact⟨by rw[h.aT,<- e4];exact o1,by rw[<- e3];exact o2,by rw[<- e3];exact o3,fun hv=>by rw[<- e2,<- e3];exact o4 hv,fun x hx=>h.fits (fun a ha x hx=>by
   obtain⟨n,hn⟩:=List.getElem?_of_mem ha;exact (g.accounts.ai n a hn).2.2.2.2 x hx) a (List.mem_of_getElem? ha) x hx⟩
 obtain⟨b,hb,e⟩:=uX h.ai ha
 simp only[Prod.mk.injEq] at e
 rw[h.orders] at ho;have:=g.ids o ho b hb;rw[e.2.2.1] at this;exact this
theorem JU {L:aI} (h:L.Good) {n:Nat} (hn:n<L.af.length):(L.ins n).Ok L.ah.length:=by
 have:L.af[n]?=some (L.ins n):=getD_at L.af n _ hn;exact h.things.af _ (List.mem_of_getElem? this)
theorem xq {L:aI} (h:L.Good) {n:Nat} (hn:n<L.af.length) :
 (pF (L.ins n) (L.und (L.ins n).under) L.day).2=0 /\ 0 <= (pF (L.ins n) (L.und (L.ins n).under) L.day).1:=by
 have hi:=JU h hn;have hu:=h.DL (n:=(L.ins n).under) hi.1 hi.2.1;obtain⟨_,_,_,p0,p1,v0,v1⟩:=hu;obtain⟨x,e,a,b⟩:=GZ hi (L.und (L.ins n).under).price (L.und (L.ins n).under).dD L.day (by omega) (by omega) v0 (by omega) h.d0 h.d1;unfold pF;rw[if_pos ⟨⟨by omega,p1⟩,v0,v1⟩,e];exact⟨rfl,a⟩
theorem LD {L:aI} (h:L.Good) {n:Nat} {x:Int} (h0:0 <= x) (h1:x <= 100000000000000):aI.Good { L with af:=L.af.set n { L.ins n with mark:=x } }:=by
 by_cases hn:n<L.af.length
 ·have T:=h.things;obtain⟨x1,x2,x3,x4,_,_,x5⟩:=JU h hn;refine⟨h.d0,h.d1,⟨T.c0,T.c1,T.u1,by simpa using T.i1,T.aT,T.ah,T.names,?_⟩,⟨h.accounts.tree,h.accounts.ai⟩,by simpa using h.ak,by simpa using h.orders,by simpa using h.aP,h.ids⟩;intro i hi;rcases List.mem_or_eq_of_mem_set hi with hi|hi
  ·exact T.af i hi
  rw[hi];exact⟨x1,x2,x3,x4,h0,h1,x5⟩
 rw[List.set_eq_of_length_le (by omega)];exact h
theorem mV {L:aI} (h:L.Good):(0:Int)<L.ai.length:=by
 have h2:2 <= L.ai.length:=by simpa using h.accounts.tree.lo
 omega
structure jI (L M:aI):Prop where
 good:M.Good
 day:M.day=L.day
 aT:M.aT=L.aT
 ah:M.ah=L.ah
 af:M.af.map Ins.noMark=L.af.map Ins.noMark
 ak:M.ak=L.ak
 orders:M.orders=L.orders
 aG:M.aG=L.aG
 aP:M.aP=L.aP
 ai:M.ai.map (fun a=>(a.parent,a.flag,a.last,a.aK.length))=L.ai.map fun a=>(a.parent,a.flag,a.last,a.aK.length)
theorem jI.trans {L M N:aI} (h:jI L M) (k:jI M N):jI L N :=
 ⟨k.good,k.day.trans h.day,k.aT.trans h.aT,k.ah.trans h.ah,k.af.trans h.af,k.ak.trans h.ak,k.orders.trans h.orders,k.aG.trans h.aG,k.aP.trans h.aP,k.ai.trans h.ai⟩
theorem jQ {L:aI} (h:L.Good) {n:Nat} (hn:n<L.af.length) (he:(dA L n).2=0):jI L (dA L n).1:=by
 obtain⟨n1,n2⟩:=xq h hn;unfold dA at he ⊢;rw[if_pos n1] at he ⊢;by_cases h1:(pF (L.ins n) (L.und (L.ins n).under) L.day).1 <= 100000000000000
 ·rw[if_pos h1] at he ⊢;by_cases h2:(dh (gZ L n) (fun _=>L.bH n) 0 L.ak L).2=0
  ·rw[if_pos h2];have k:=iJ (f:=gZ L n) (c:=fun _=>L.bH n) (frm:=0) (ps:=L.ak) (L:=L) ⟨Int.le_refl _,mV h⟩ (fun p hp=>by
    obtain⟨a1,a2,_⟩:=h.ak.all p hp;omega) h2
   have g:=LD (k.good h) (n:=n) n2 h1;have ei:(dh (gZ L n) (fun _=>L.bH n) 0 L.ak L).1.ins n=L.ins n:=by unfold aI.ins;rw[k.af]
   rw[ei,k.af] at g;exact⟨g,k.day,k.aT,k.ah,rZ _ _ _ ⟨0,0,0,0,0,false,0⟩ _ hn rfl,k.ak,k.orders,k.aG,k.aP,k.ai⟩
  rw[if_neg h2] at he;exact absurd he h2
 rw[if_neg h1] at he;exact absurd he (by decide)
theorem nI:∀ {r:List Ins} {n:Nat} {L:aI} (h:L.Good) (hn:n+r.length <= L.af.length) (he:(eU n r L).2=0),jI L (eU n r L).1
 | [],n,L,h,hn,he=>⟨h,rfl,rfl,rfl,rfl,rfl,rfl,rfl,rfl,rfl⟩
 | i::r,n,L,h,hn,he=>by
   rw[List.length_cons] at hn;unfold eU at he ⊢;by_cases h1:i.aO=0 \/ L.day <= i.aO
   ·rw[if_pos h1] at he ⊢;by_cases h2:(dA L n).2=0
    ·rw[if_pos h2] at he ⊢;have k:=jQ h (by omega) h2;have e:(dA L n).1.af.length=L.af.length:=by have:=congrArg List.length k.af;simpa using this
     exact k.trans (nI k.good (by omega) he)
    rw[if_neg h2] at he;exact absurd he h2
   rw[if_neg h1] at he ⊢;exact nI h (by omega) he
theorem oQ.filter {ps:List Pos} {a i:Nat} (h:oQ ps a i) (f:Pos -> Bool):oQ (ps.filter f) a i :=
 ⟨Nat.le_trans (List.length_filter_le ..) h.len,fun p hp=>h.all p (List.mem_filter.1 hp).1,h.rise.sub Pos.Lt.trans List.filter_sublist⟩
theorem kE.filter {ps:List Ord} {a i:Nat} (h:kE ps a i) (f:Ord -> Bool):kE (ps.filter f) a i :=
 ⟨Nat.le_trans (List.length_filter_le ..) h.len,fun p hp=>h.all p (List.mem_filter.1 hp).1,h.rise.sub Ord.Lt.trans List.filter_sublist⟩
theorem AQ {α:Type} {lt:α -> α -> Prop}:jl lt []:=fun i a b ha=>by simp at ha
theorem zQ {L:aI} (h:L.Good) (he:(jf L).err=0):(jf L).led.Good:=by
 unfold jf at he ⊢;by_cases h1:L.day<100000
 ·rw[if_pos h1] at he ⊢;by_cases h2:(eU 0 L.af L).2=0
  ·rw[if_pos h2];have k:=nI h (by simp) h2;have g:=k.good;have T:=g.things;have e:(eU 0 L.af L).1.af.length=L.af.length:=by have:=congrArg List.length k.af;simpa using this
   have P:=g.ak;rw[k.ak] at P;refine⟨by have:=h.d0;show 0 <= L.day+1;omega,by show L.day+1 <= 100000;omega,⟨T.c0,T.c1,T.u1,T.i1,T.aT,T.ah,T.names,T.af⟩,⟨g.accounts.tree,g.accounts.ai⟩,P.filter _,⟨Nat.zero_le _,by simp,AQ⟩,⟨by simp[e],Nat.zero_le _,?_,by simp,AQ⟩,by simp⟩;intro q hq;rw[(List.mem_replicate.1 hq).2];decide
  rw[if_neg h2] at he;exact absurd he h2
 rw[if_neg h1] at he;exact absurd (gX he) (by decide)
theorem uO {L:aI} (h:L.Good) {u x:Int} (he:(jL L u x).err=0):(jL L u x).led.Good:=by
 unfold jL at he ⊢;by_cases h1:0 <= u /\ u<L.ah.length
 ·rw[if_pos h1] at he ⊢;by_cases h2:0 <= x /\ x <= 1000000000000
  ·rw[if_pos h2] at he ⊢;by_cases h3:(dh (Ep L u x) (fun p=>L.bH p.instr) 0 L.ak L).2=0
   ·rw[if_pos h3];exact (iJ ⟨Int.le_refl _,mV h⟩ (fun p hp=>by
     obtain⟨a1,a2,_⟩:=h.ak.all p hp;omega) h3).good h
   rw[if_neg h3] at he;exact absurd he h3
  rw[if_neg h2] at he;exact absurd (gX he) (by decide)
 rw[if_neg h1] at he;exact absurd (gX he) (by decide)
theorem yB {L:aI} (h:L.Good) {u:Int} {s:ByteArray} (he:(jk L u s).err=0):(jk L u s).led.Good:=by
 unfold jk at he ⊢;by_cases h1:0 <= u /\ u<L.ah.length
 ·rw[if_pos h1] at he ⊢;by_cases h2:nameB s=true /\ ∀ x∈L.ah,x.name≠s
  ·rw[if_pos h2];have T:=h.things;have ok:=T.ah u.toNat (L.und u) (getD_at L.ah u.toNat _ (by omega));refine⟨h.d0,h.d1,⟨T.c0,T.c1,by simpa using T.u1,T.i1,T.aT,JH T.ah ⟨h2.1,ok.2⟩,?_,by simpa using T.af⟩,⟨h.accounts.tree,h.accounts.ai⟩,h.ak,h.orders,h.aP,h.ids⟩;intro n k a b hk ha hb
   simp only[List.getElem?_set] at ha hb
   split at ha
   ·rw[if_neg (by omega)] at hb
    split at ha
    ·cases ha;exact fun e=>h2.2 b (List.mem_of_getElem? hb) e
    cases ha
   split at hb
   ·split at hb
    ·cases hb;exact fun e=>h2.2 a (List.mem_of_getElem? ha) e.symm
    cases hb
   exact T.names n k a b hk ha hb
  rw[if_neg h2] at he;exact absurd (gX he) (by decide)
 rw[if_neg h1] at he;exact absurd (gX he) (by decide)
theorem Rx (q:Nat):0 <= (kU q false).1:=by
 unfold kU;by_cases h:4611686018427387904<q
 ·rw[if_pos h];exact Int.le_refl 0
 rw[if_neg h];exact Int.natCast_nonneg _
theorem JW {a b c m:Int} (ha:0 <= a) (hb:0 <= b) (hc:0 <= c):0 <= (kz a b c m).1:=by
 unfold kz
 split
 ·exact Int.le_refl _
 split
 ·exact Int.le_refl _
 have e:FV a b c=false:=by unfold FV;rw[decide_eq_false (by omega:¬ a<0),decide_eq_false (by omega:¬ b<0),decide_eq_false (by omega:¬ c<0)];rfl
 rw[e];exact Rx _
theorem vz (num den q:Int):-1000000000 <= (dI num den q).1 /\ (dI num den q).1 <= 1000000000:=by
 unfold dI
 split
 ·split
  ·assumption
  exact⟨by show (-1000000000:Int) <= 0;decide,by show (0:Int) <= 1000000000;decide⟩
 exact⟨by show (-1000000000:Int) <= 0;decide,by show (0:Int) <= 1000000000;decide⟩
theorem Jq {num den q:Int} (h0:0 <= q) (h1:1 <= num) (h2:1 <= den):0 <= (dI num den q).1:=by
 unfold dI
 split
 ·split
  ·exact JW h0 (by omega) (by omega)
  exact Int.le_refl 0
 exact Int.le_refl 0
theorem xR {u num den:Int} {m:Nat}:∀ {l:List Ins} {qs:List Int},l.length=qs.length -> gK u num den m l qs=0 -> ∀ i∈l,i.under=u -> (rq num den i).Ok m
 | [],qs,hl,h,i,hi,e=>by cases hi
 | x::r,[],hl,h,i,hi,e=>by simp at hl
 | x::r,q::s,hl,h,i,hi,e=>by
   unfold gK at h;rcases List.mem_cons.1 hi with hi|hi
   ·subst hi;rw[if_pos e] at h
    split at h
    ·rename_i h1;unfold zl at h1
     split at h1
     ·split at h1
      ·split at h1
       ·assumption
       exact absurd h1 (by decide)
      rename_i h2;exact absurd h1 h2
     rename_i h2;exact absurd h1 h2
    rename_i h2;exact absurd h h2
   have hl':r.length=s.length:=by simpa using hl
   split at h
   ·split at h
    ·exact xR hl' h i hi e
    rename_i h2;exact absurd h h2
   exact xR hl' h i hi e
theorem zL {u num den:Int}:∀ {l:List Ins} {qs:List Int} {x:Int},x∈gm u num den l qs -> ∃ q∈qs,x=q \/ x=(dI num den q).1
 | [],qs,x,h=>by simp[gm] at h
 | i::r,[],x,h=>by simp[gm] at h
 | i::r,q::s,x,h=>by
   unfold gm at h;rw[List.zipWith_cons_cons] at h;rcases List.mem_cons.1 h with h|h
   ·refine⟨q,List.mem_cons_self ..,?_⟩;rw[h]
    split
    ·exact Or.inr rfl
    exact Or.inl rfl
   obtain⟨y,hy,e⟩:=zL (l:=r) (qs:=s) h;exact⟨y,List.mem_cons_of_mem _ hy,e⟩
theorem yP {L:aI} (h:L.Good) {u num den:Int} (hu:0 <= u /\ u<L.ah.length) (hn:1 <= num) (hd:1 <= den)
 (hok:gJ.Ok { L.und u with price:=(gB num den (L.und u).price).1 } L.aT.length) (hi:gK u num den L.ah.length L.af L.aG=0):(L.split u num den).Good:=by
 have T:=h.things;have el:(fQ u num den L.af).length=L.af.length:=by simp[fQ]
 have hm:(L.ah.set u.toNat { L.und u with price:=(gB num den (L.und u).price).1 }).map (·.name)=L.ah.map (·.name):=rZ _ _ _ ⟨⟨#[]⟩,0,0,0⟩ _ (by omega) rfl;refine⟨h.d0,h.d1,⟨T.c0,T.c1,by simpa [aI.split] using T.u1,by simpa [aI.split,el] using T.i1,T.aT,JH T.ah hok,?_,?_⟩,⟨h.accounts.tree,h.accounts.ai⟩,
  by show oQ L.ak L.ai.length (fQ u num den L.af).length;rw[el];exact h.ak,by show kE L.orders L.ai.length (fQ u num den L.af).length;rw[el];exact h.orders,?_,h.ids⟩
 ·intro n k a b hk ha hb;obtain⟨a',ha',ea⟩:=uX hm ha;obtain⟨b',hb',eb⟩:=uX hm hb;have:=T.names n k a' b' hk ha' hb';rw[ea,eb] at this;exact this
 ·intro i hi';have hi2:i∈fQ u num den L.af:=hi';unfold fQ at hi2;obtain⟨x,hx,rfl⟩:=List.mem_map.1 hi2
  show Ins.Ok _ (L.ah.set _ _).length
  rw[List.length_set]
  split
  ·rename_i e;exact xR h.aP.len.symm hi x hx e
  exact T.af x hx
 refine⟨?_,h.aP.IJ,?_,?_,h.aP.rise⟩
 ·show (gm u num den L.af L.aG).length=(fQ u num den L.af).length
  rw[el];simp[gm,h.aP.len]
 ·intro x hx;obtain⟨q,hq,e⟩:=zL (show x∈gm u num den L.af L.aG from hx);obtain⟨q0,q1⟩:=h.aP.aG q hq;rcases e with e|e
  ·rw[e];exact⟨q0,q1⟩
  rw[e];exact⟨Jq q0 hn hd,(vz _ _ _).2⟩
 show ∀ x∈L.aP,2 <= x.aJ /\ x.aJ<L.ai.length /\ 0 <= x.instr /\ x.instr<(fQ u num den L.af).length /\ _
 rw[el];exact h.aP.all
theorem uz {L:aI} {u num den:Int} {l:List Pos} {p:Pos} (h:p∈bg L u num den l):∃ p'∈l,p.aJ=p'.aJ /\ p.instr=p'.instr /\ (p.qty=p'.qty \/ p.qty=(dI num den p'.qty).1):=by
 unfold bg at h;obtain⟨x,hx,rfl⟩:=List.mem_map.1 h;refine⟨x,hx,?_⟩
 split
 ·exact⟨rfl,rfl,Or.inr rfl⟩
 exact⟨rfl,rfl,Or.inl rfl⟩
theorem rG {L:aI} {u num den:Int} {l:List Pos} (h:jl Pos.Lt l):jl Pos.Lt (bg L u num den l):=by
 intro n a b ha hb;unfold bg at ha hb;rw[List.getElem?_map] at ha hb
 cases hx:l[n]? with
 | none=>rw[hx] at ha;cases ha
 | some x =>
   cases hy:l[n+1]? with
   | none=>rw[hy] at hb;cases hb
   | some y =>
     rw[hx] at ha;rw[hy] at hb;have:=h n x y hx hy
     simp only[Option.map_some,Option.some.injEq] at ha hb
     subst ha hb;unfold Pos.Lt at *
     split <;> split <;> exact this
theorem qH {L:aI} (h:L.Good) {u num den:Int} (he:(dw L u num den).err=0):(dw L u num den).led.Good:=by
 unfold dw at he ⊢;by_cases h1:0 <= u /\ u<L.ah.length
 ·rw[if_pos h1] at he ⊢;by_cases h2:1 <= num /\ num <= 1000 /\ 1 <= den /\ den <= 1000
  ·rw[if_pos h2] at he ⊢;by_cases h3:(gB num den (L.und u).price).2=0
   ·rw[if_pos h3] at he ⊢;by_cases h4:gJ.Ok { L.und u with price:=(gB num den (L.und u).price).1 } L.aT.length
    ·rw[if_pos h4] at he ⊢;by_cases h5:gK u num den L.ah.length L.af L.aG=0
     ·rw[if_pos h5] at he ⊢;by_cases h6:(dh (jh L u num den) (fun p=>L.bH p.instr) 1 L.ak (L.split u num den)).2=0
      ·rw[if_pos h6] at he ⊢;by_cases h7:jO L u num den L.aP=0
       ·rw[if_pos h7];have g0:=yP h h1 h2.1 h2.2.2.1 h4 h5;have k:=iJ (f:=jh L u num den) (c:=fun p=>L.bH p.instr) (frm:=1) (ps:=L.ak) (L:=L.split u num den) ⟨by decide,by
         have h2:2 <= L.ai.length:=by simpa using h.accounts.tree.lo
         show (1:Int)<L.ai.length
         omega⟩ (fun p hp=>by
         obtain⟨a1,a2,_⟩:=h.ak.all p hp;exact⟨by omega,a2⟩) h6
        have g:=k.good g0;have T:=g.things;have P:=g.ak;have O:=g.orders;have Q:=g.aP;rw[k.ak] at P;rw[k.orders] at O;rw[k.aG,k.aP] at Q;have D:=g.ids;rw[k.orders] at D;refine⟨g.d0,g.d1,⟨T.c0,T.c1,T.u1,T.i1,T.aT,T.ah,T.names,T.af⟩,⟨g.accounts.tree,g.accounts.ai⟩,⟨?_,?_,?_⟩,O.filter _,⟨by rw[<- k.aG] at Q;exact Q.len,?_,by rw[<- k.aG] at Q;exact Q.aG,?_,?_⟩,?_⟩
        ·exact Nat.le_trans (List.length_filter_le ..) (by simpa [bg] using h.ak.len)
        ·intro p hp;obtain⟨m,hq⟩:=List.mem_filter.1 hp;obtain⟨x,hx,e1,e2,e3⟩:=uz m;obtain⟨a1,a2,a3,a4,a5,a6,a7⟩:=P.all x hx;have hs:=vz num den x.qty;refine⟨by rw[e1];exact a1,by rw[e1];exact a2,by rw[e2];exact a3,by rw[e2];exact a4,by simpa using hq,?_,?_⟩ <;> rcases e3 with e3|e3 <;> rw[e3] <;> omega
        ·exact (rG h.ak.rise).sub Pos.Lt.trans List.filter_sublist
        ·exact Nat.le_trans (List.length_filter_le ..) (by simpa [bg] using h.aP.IJ)
        ·intro p hp;obtain⟨m,hq⟩:=List.mem_filter.1 hp;obtain⟨x,hx,e1,e2,e3⟩:=uz m;obtain⟨a1,a2,a3,a4,a5,a6⟩:=Q.all x hx;have hs:=vz num den x.qty;have hq':0<p.qty:=by simpa using hq
         refine⟨by rw[e1];exact a1,by rw[e1];exact a2,by rw[e2];exact a3,by rw[e2];exact a4,by omega,?_⟩;rcases e3 with e3|e3 <;> rw[e3] <;> omega
        ·exact (rG h.aP.rise).sub Pos.Lt.trans List.filter_sublist
        intro o ho a ha;exact D o (List.mem_filter.1 ho).1 a ha
       rw[if_neg h7] at he;exact absurd he h7
      rw[if_neg h6] at he;exact absurd he h6
     rw[if_neg h5] at he;exact absurd he h5
    rw[if_neg h4] at he;exact absurd (gX he) (by decide)
   rw[if_neg h3] at he;exact absurd he h3
  rw[if_neg h2] at he;exact absurd (gX he) (by decide)
 rw[if_neg h1] at he;exact absurd (gX he) (by decide)
def aI.fG (L:aI) (a c:Int):Prop:=(0 <= a /\ a<L.ai.length) /\ 0 <= c /\ c<(L.acc a).aK.length
theorem vI {L:aI} {a c x v:Int} (ha:0 <= a /\ a<L.ai.length) (hv:0 <= v) :
 (L.dP a c x).acc v=if a=v then { L.acc a with aK:=(L.acc a).aK.set c.toNat x } else L.acc v:=by
 unfold aI.dP
 show (L.ai.set a.toNat _).getD v.toNat _=_
 rw[List.getD_eq_getElem?_getD,List.getElem?_set];by_cases e:a=v
 ·subst e;rw[if_pos rfl,if_pos (by omega),if_pos rfl];rfl
 rw[if_neg (by omega),if_neg e];unfold aI.acc;rw[List.getD_eq_getElem?_getD]
theorem oV {L:aI} {a c x v k:Int} (h:L.fG a c) (hv:0 <= v) (hk:0 <= k) :
 (L.dP a c x).aK v k=if a=v /\ c=k then x else L.aK v k:=by
 obtain⟨ha,h1,h2⟩:=h;unfold aI.aK;rw[vI ha hv];by_cases e:a=v
 ·subst e;rw[if_pos rfl]
  show ((L.acc a).aK.set c.toNat x).getD k.toNat 0=_
  rw[List.getD_eq_getElem?_getD,List.getElem?_set];by_cases e2:c=k
  ·subst e2;rw[if_pos rfl,if_pos (by omega),if_pos ⟨rfl,rfl⟩];rfl
  rw[if_neg (by omega),if_neg (fun h=>e2 h.2),List.getD_eq_getElem?_getD]
 rw[if_neg e,if_neg (fun h=>e h.1)]
theorem aI.fG.set {L:aI} {a c x b d:Int} (h:L.fG b d) (ha:0 <= a /\ a<L.ai.length):(L.dP a c x).fG b d:=by
 obtain⟨h1,h2,h3⟩:=h;refine⟨⟨h1.1,by simpa [aI.dP] using h1.2⟩,h2,?_⟩;rw[vI ha h1.1];by_cases e:a=b
 ·subst e;rw[if_pos rfl];simpa using h3
 rw[if_neg e];exact h3
theorem DZ {a b:Int} (h:(fK a b).2=0):(fK a b).1=a+b:=by
 unfold fK at h ⊢
 split at h
 ·rename_i h4;rw[if_pos h4]
 cases h
theorem GK {a b:Int} (h:(iO a b).2=0):(iO a b).1=a - b:=by
 unfold iO at h ⊢
 split at h
 ·rename_i h4;rw[if_pos h4]
 cases h
theorem Ar {L:aI} {c x f t v k:Int} (hf:L.fG f c) (ht:L.fG t c) (hv:0 <= v) (hk:0 <= k) (h:(gI L c x f t).2=0) :
 (gI L c x f t).1.aK v k=L.aK v k+(if t=v /\ c=k then x else 0) - (if f=v /\ c=k then x else 0):=by
 unfold gI at h ⊢
 split at h
 ·rename_i h1;rw[if_pos h1]
  split at h
  ·rename_i h2;rw[if_pos h2];have e1:=GK h1;have e2:=DZ h2;have HT:=ht.set (x:=(iO (L.aK f c) x).1) (c:=c) hf.1
   show ((L.dP f c _).dP t c _).aK v k=_
   rw[oV HT hv hk,e2,oV hf hv hk,oV hf ht.1.1 ht.2.1,e1];clear h2 HT;by_cases a0:c=k
   ·by_cases a1:t=v
    ·by_cases a2:f=v
     ·simp[a0,a1,a2] <;> omega
     simp[a0,a1,a2]
    by_cases a2:f=v
    ·simp[a0,a1,a2] <;> omega
    simp[a0,a1,a2]
   simp[a0]
  rename_i h2;exact absurd h h2
 rename_i h1;exact absurd h h1
theorem fF.has {L M:aI} (h:fF L M) {a c:Int} (k:L.fG a c):M.fG a c:=by
 obtain⟨k1,k2,k3⟩:=k;refine⟨by rw[h.len];exact k1,k2,?_⟩;have hA:=getD_at M.ai a.toNat ⟨-1,[],false,0⟩ (by rw[h.len];omega);obtain⟨b,hb,e⟩:=uX h.ai hA;have hB:=getD_at L.ai a.toNat ⟨-1,[],false,0⟩ (by omega);rw[hb] at hB;cases hB
 simp only[Prod.mk.injEq] at e
 show c<(M.ai.getD a.toNat _).aK.length
 rw[<- e.2.2.2];exact k3
def ve (f:Pos -> Option (Int×Int)) (c:Pos -> Int) (v k:Int):List Pos -> Int
 | []=>0
 | p::r=>(match f p with|.none=>0|.some x=>if p.aJ=v /\ c p=k then x.1 else 0)+ve f c v k r
def xu (f:Pos -> Option (Int×Int)) (c:Pos -> Int) (k:Int):List Pos -> Int
 | []=>0
 | p::r=>(match f p with|.none=>0|.some x=>if c p=k then x.1 else 0)+xu f c k r
theorem pI {f:Pos -> Option (Int×Int)} {c:Pos -> Int} {frm v k:Int} (hv:0 <= v) (hk:0 <= k):∀ {ps:List Pos} {L:aI} (hp:∀ p∈ps,f p≠.none -> L.fG frm (c p) /\ L.fG p.aJ (c p))
 (h:(dh f c frm ps L).2=0),(dh f c frm ps L).1.aK v k=L.aK v k+ve f c v k ps - (if frm=v then xu f c k ps else 0)
 | [],L,hp,h=>by simp[dh,ve,xu]
 | p::r,L,hp,h=>by
   unfold dh ve xu at *
   cases hq:f p with
   | none =>
     rw[hq] at h;have:=pI (frm:=frm) hv hk (fun q hq=>hp q (List.mem_cons_of_mem _ hq)) h
     simp only at this ⊢
     rw[this]
     split <;> omega
   | some x =>
     rw[hq] at h
     simp only at h ⊢
     obtain⟨p1,p2⟩:=hp p (List.mem_cons_self ..) (by rw[hq];simp);by_cases h1:x.2=0
     ·rw[if_pos h1] at h ⊢;by_cases h2:(gI L (c p) x.1 frm p.aJ).2=0
      ·rw[if_pos h2] at h ⊢;have k1:=lN p1.1 p2.1 h2;have:=pI (frm:=frm) hv hk (fun q hq hn=>⟨k1.has (hp q (List.mem_cons_of_mem _ hq) hn).1,k1.has (hp q (List.mem_cons_of_mem _ hq) hn).2⟩) h;rw[this,Ar p1 p2 hv hk h2];by_cases a1:frm=v
       ·by_cases a2:c p=k
        ·simp only[a1,a2,and_true,true_and,if_true];split <;> omega
        simp only[a1,a2,and_false,if_false,if_true];omega
       simp only[a1,false_and,if_false];split <;> omega
      rw[if_neg h2] at h;exact absurd h h2
     rw[if_neg h1] at h;exact absurd h h1
def dQ (L:aI) (k:Int):Nat -> Int
 | 0=>0
 | n+1=>dQ L k n+L.aK n k
theorem wH {L:aI} {c x f t k:Int} (hf:L.fG f c) (ht:L.fG t c) (hk:0 <= k) (h:(gI L c x f t).2=0):∀ n:Nat,
 dQ (gI L c x f t).1 k n=dQ L k n+(if t<n /\ c=k then x else 0) - (if f<n /\ c=k then x else 0)
 | 0=>by
   rw[if_neg (fun h=>by have:=ht.1.1;omega),if_neg (fun h=>by have:=hf.1.1;omega)];rfl
 | n+1=>by
   unfold dQ;rw[wH hf ht hk h n,Ar hf ht (Int.natCast_nonneg n) hk h];have:=ht.1.1;have:=hf.1.1;by_cases e:c=k
   ·simp only[e,and_true]
    repeat' split
    all_goals omega
   simp only[e,and_false,if_false];omega
theorem NP {L:aI} {c x f t k:Int} (hf:L.fG f c) (ht:L.fG t c) (hk:0 <= k) (h:(gI L c x f t).2=0) :
 dQ (gI L c x f t).1 k L.ai.length=dQ L k L.ai.length:=by
 rw[wH hf ht hk h];have h1:=ht.1.2;have h2:=hf.1.2;by_cases e:c=k
 ·rw[if_pos ⟨h1,e⟩,if_pos ⟨h2,e⟩];omega
 rw[if_neg (fun h=>e h.2),if_neg (fun h=>e h.2)];omega
theorem lU {f:Pos -> Option (Int×Int)} {c:Pos -> Int} {frm k:Int} (hk:0 <= k):∀ {ps:List Pos} {L:aI} (hp:∀ p∈ps,f p≠.none -> L.fG frm (c p) /\ L.fG p.aJ (c p))
 (h:(dh f c frm ps L).2=0),dQ (dh f c frm ps L).1 k L.ai.length=dQ L k L.ai.length
 | [],L,hp,h=>rfl
 | p::r,L,hp,h=>by
   unfold dh at *
   cases hq:f p with
   | none =>
     rw[hq] at h;exact lU hk (fun q hq=>hp q (List.mem_cons_of_mem _ hq)) h
   | some x =>
     rw[hq] at h
     simp only at h ⊢
     obtain⟨p1,p2⟩:=hp p (List.mem_cons_self ..) (by rw[hq];simp);by_cases h1:x.2=0
     ·rw[if_pos h1] at h ⊢;by_cases h2:(gI L (c p) x.1 frm p.aJ).2=0
      ·rw[if_pos h2] at h ⊢;have k1:=lN p1.1 p2.1 h2;have:=lU hk (fun q hq hn=>⟨k1.has (hp q (List.mem_cons_of_mem _ hq) hn).1,k1.has (hp q (List.mem_cons_of_mem _ hq) hn).2⟩) h;rw[k1.len] at this;exact this.trans (NP p1 p2 hk h2)
      rw[if_neg h2] at h;exact absurd h h2
     rw[if_neg h1] at h;exact absurd h h1
noncomputable def dY (L:aI) (k:Nat) (u a b:Int) (s:ByteArray):xA :=
 match k with
 | 0=>jf L
 | 1=>dw L u a b
 | 2=>jL L u a
 | _=>jk L u s
theorem lg {L:aI} (h:L.Good) {k:Nat} {u a b:Int} {s:ByteArray} (he:(dY L k u a b s).err=0):(dY L k u a b s).led.Good:=by
 unfold dY at he ⊢
 split at he
 ·exact zQ h he
 ·exact qH h he
 ·exact uO h he
 exact yB h he
theorem aI.Good.has {L:aI} (h:L.Good) {a c:Int} (ha:0 <= a /\ a<L.ai.length) (hc:0 <= c /\ c<L.aT.length):L.fG a c:=by
 refine⟨ha,hc.1,?_⟩;have hA:=getD_at L.ai a.toNat ⟨-1,[],false,0⟩ (by omega);have:=(h.accounts.ai _ _ hA).1
 show c<(L.ai.getD a.toNat _).aK.length
 rw[this];exact hc.2
theorem aI.Good.lG {L:aI} (h:L.Good) {n:Int} (h0:0 <= n) (h1:n<L.af.length):0 <= L.bH n /\ L.bH n<L.aT.length:=by
 have hi:=h.IB h0 h1;have hu:=h.DL hi.1 hi.2.1;exact⟨hu.2.1,hu.2.2.1⟩
theorem aI.Good.two {L:aI} (h:L.Good):(1:Int)<L.ai.length:=by
 have h2:2 <= L.ai.length:=by simpa using h.accounts.tree.lo
 omega
theorem aI.fG.ai {L M:aI} (e:M.ai=L.ai) {a c:Int} (h:L.fG a c):M.fG a c:=by
 unfold aI.fG aI.acc at *;rw[e];exact h
theorem aI.Good.pays {L:aI} (h:L.Good) {frm:Int} (hf:0 <= frm /\ frm <= 1) {p:Pos} (hp:p∈L.ak):L.fG frm (L.bH p.instr) /\ L.fG p.aJ (L.bH p.instr):=by
 obtain⟨a1,a2,a3,a4,_⟩:=h.ak.all p hp;have hc:=h.lG a3 a4;have:=h.two;exact⟨h.has ⟨hf.1,by omega⟩ hc,h.has ⟨by omega,a2⟩ hc⟩
theorem jd {L M:aI} (e:M.ai=L.ai) (k:Int):∀ n,dQ M k n=dQ L k n
 | 0=>rfl
 | n+1=>by
   unfold dQ;rw[jd e k n];unfold aI.aK aI.acc;rw[e]
theorem DF {L:aI} (h:L.Good) {n:Nat} (hn:n<L.af.length) {k:Int} (hk:0 <= k) (he:(dA L n).2=0):dQ (dA L n).1 k L.ai.length=dQ L k L.ai.length:=by
 obtain⟨n1,n2⟩:=xq h hn;unfold dA at he ⊢;rw[if_pos n1] at he ⊢;by_cases h1:(pF (L.ins n) (L.und (L.ins n).under) L.day).1 <= 100000000000000
 ·rw[if_pos h1] at he ⊢;by_cases h2:(dh (gZ L n) (fun _=>L.bH n) 0 L.ak L).2=0
  ·rw[if_pos h2];refine Eq.trans (jd (L:=(dh (gZ L n) (fun _=>L.bH n) 0 L.ak L).1) ?_ k _) (lU hk (fun p hp hq=>?_) h2)
   ·rfl
   have e:p.instr=n:=by
    by_cases e:p.instr=n
    ·exact e
    unfold gZ at hq;rw[if_neg e] at hq;exact absurd rfl hq
   have:=h.pays (frm:=0) ⟨by decide,by decide⟩ hp;rw[e] at this;exact this
  rw[if_neg h2] at he;exact absurd he h2
 rw[if_neg h1] at he;exact absurd he (by decide)
theorem jI.len {L M:aI} (h:jI L M):M.ai.length=L.ai.length:=by
 have:=congrArg List.length h.ai
 simpa using this
theorem qJ {k:Int} (hk:0 <= k):∀ {r:List Ins} {n:Nat} {L:aI} (h:L.Good) (hn:n+r.length <= L.af.length) (he:(eU n r L).2=0),dQ (eU n r L).1 k L.ai.length=dQ L k L.ai.length
 | [],n,L,h,hn,he=>rfl
 | i::r,n,L,h,hn,he=>by
   rw[List.length_cons] at hn;unfold eU at he ⊢;by_cases h1:i.aO=0 \/ L.day <= i.aO
   ·rw[if_pos h1] at he ⊢;by_cases h2:(dA L n).2=0
    ·rw[if_pos h2] at he ⊢;have D:=jQ h (by omega) h2;have e:(dA L n).1.af.length=L.af.length:=by have:=congrArg List.length D.af;simpa using this
     have:=qJ hk D.good (by omega) he;rw[D.len] at this;exact this.trans (DF h (by omega) hk h2)
    rw[if_neg h2] at he;exact absurd he h2
   rw[if_neg h1] at he ⊢;exact qJ hk h (by omega) he
theorem sU {L:aI} {u num den:Int} (he:(dw L u num den).err=0) :
 (0 <= u /\ u<L.ah.length) /\ (1 <= num /\ num <= 1000 /\ 1 <= den /\ den <= 1000) /\ (gB num den (L.und u).price).2=0 /\ gJ.Ok { L.und u with price:=(gB num den (L.und u).price).1 } L.aT.length /\
 gK u num den L.ah.length L.af L.aG=0 /\ (dh (jh L u num den) (fun p=>L.bH p.instr) 1 L.ak (L.split u num den)).2=0 /\ jO L u num den L.aP=0 /\
 dw L u num den=⟨{ (dh (jh L u num den) (fun p=>L.bH p.instr) 1 L.ak (L.split u num den)).1 with ak:=(bg L u num den L.ak).filter (fun p=>decide (p.qty≠0)),aP:=(bg L u num den L.aP).filter (fun p=>decide (0<p.qty)),orders:=L.orders.filter (fun o=>!L.over u o.instr) },u,0⟩:=by
 unfold dw at he ⊢;by_cases h1:0 <= u /\ u<L.ah.length
 ·rw[if_pos h1] at he ⊢;by_cases h2:1 <= num /\ num <= 1000 /\ 1 <= den /\ den <= 1000
  ·rw[if_pos h2] at he ⊢;by_cases h3:(gB num den (L.und u).price).2=0
   ·rw[if_pos h3] at he ⊢;by_cases h4:gJ.Ok { L.und u with price:=(gB num den (L.und u).price).1 } L.aT.length
    ·rw[if_pos h4] at he ⊢;by_cases h5:gK u num den L.ah.length L.af L.aG=0
     ·rw[if_pos h5] at he ⊢;by_cases h6:(dh (jh L u num den) (fun p=>L.bH p.instr) 1 L.ak (L.split u num den)).2=0
      ·rw[if_pos h6] at he ⊢;by_cases h7:jO L u num den L.aP=0
       ·rw[if_pos h7];exact⟨h1,h2,h3,h4,h5,h6,h7,rfl⟩
       rw[if_neg h7] at he;exact absurd he h7
      rw[if_neg h6] at he;exact absurd he h6
     rw[if_neg h5] at he;exact absurd he h5
    rw[if_neg h4] at he;exact absurd (gX he) (by decide)
   rw[if_neg h3] at he;exact absurd he h3
  rw[if_neg h2] at he;exact absurd (gX he) (by decide)
 rw[if_neg h1] at he;exact absurd (gX he) (by decide)
theorem Fp {L:aI} (h:L.Good) {k:Nat} {u a b:Int} {s:ByteArray} {c:Int} (hc:0 <= c) (he:(dY L k u a b s).err=0):dQ (dY L k u a b s).led c L.ai.length=dQ L c L.ai.length:=by
 unfold dY at he ⊢
 split at he
 ·unfold jf at he ⊢;by_cases h1:L.day<100000
  ·rw[if_pos h1] at he ⊢;by_cases h2:(eU 0 L.af L).2=0
   ·rw[if_pos h2];refine Eq.trans (jd (L:=(eU 0 L.af L).1) ?_ c _) (qJ hc h (by simp) h2);rfl
   rw[if_neg h2] at he;exact absurd he h2
  rw[if_neg h1] at he;exact absurd (gX he) (by decide)
 ·obtain⟨h1,h2,h3,h4,h5,h6,h7,e⟩:=sU he
  simp only[e]
  have t:=lU (L:=L.split u a b) hc (fun p hp hq=>by
   have:=h.pays (frm:=1) ⟨by decide,by decide⟩ hp;exact⟨this.1.ai (M:=L.split u a b) rfl,this.2.ai (M:=L.split u a b) rfl⟩) h6
  have t2:dQ (L.split u a b) c L.ai.length=dQ L c L.ai.length:=by
   refine jd ?_ c _;rfl
  refine Eq.trans (jd (L:=(dh (jh L u a b) (fun p=>L.bH p.instr) 1 L.ak (L.split u a b)).1) ?_ c _) (Eq.trans t t2);rfl
 ·unfold jL at he ⊢;by_cases h1:0 <= u /\ u<L.ah.length
  ·rw[if_pos h1] at he ⊢;by_cases h2:0 <= a /\ a <= 1000000000000
   ·rw[if_pos h2] at he ⊢;by_cases h3:(dh (Ep L u a) (fun p=>L.bH p.instr) 0 L.ak L).2=0
    ·rw[if_pos h3];exact lU hc (fun p hp hq=>h.pays (frm:=0) ⟨by decide,by decide⟩ hp) h3
    rw[if_neg h3] at he;exact absurd he h3
   rw[if_neg h2] at he;exact absurd (gX he) (by decide)
  rw[if_neg h1] at he;exact absurd (gX he) (by decide)
 unfold jk at he ⊢;by_cases h1:0 <= u /\ u<L.ah.length
 ·rw[if_pos h1] at he ⊢;by_cases h2:nameB s=true /\ ∀ x∈L.ah,x.name≠s
  ·rw[if_pos h2];refine jd ?_ c _;rfl
  rw[if_neg h2] at he;exact absurd (gX he) (by decide)
 rw[if_neg h1] at he;exact absurd (gX he) (by decide)
end Go.Bw
namespace Go.Proofs.YtfknkmlocbojhaaGreatDoor
open Go.RowKit Go.Bw Go.Maps Go.Shelf Go.Bw.Fall
theorem xK {L:aI} {r:xA} (hr:L.Good -> r.err=0 -> r.led.Good) (h:(dL L r).2.2=0):(dL L r).1.Good /\ fC (dL L r).1=((dL L r).1,0):=by
 obtain⟨hg,he,hf,e,_⟩:=nY h;rw[e];have g:=jZ (hr hg he) hf;exact⟨g.2,ku g.2 (Ci g.1)⟩
theorem lK {L:aI} {k:Nat} {u a b:Int} {s:ByteArray} (h:(dL L (dY L k u a b s)).2.2=0) :
 (dL L (dY L k u a b s)).1.Good /\ fC (dL L (dY L k u a b s)).1=((dL L (dY L k u a b s)).1,0) :=
 xK (fun hg he=>lg hg he) h
theorem rW {l m:aI} (h:gq l=some m) (v k:Int):m.aK v k=l.aK v k:=by
 obtain⟨_,hn,hk⟩:=nK h;unfold aI.aK aI.acc;by_cases hv:v.toNat<l.ai.length
 ·have h1:=getD_at l.ai v.toNat ⟨-1,[],false,0⟩ hv;have h2:=getD_at m.ai v.toNat ⟨-1,[],false,0⟩ (by omega);have:=congrArg Acc.aK (hk _ _ _ h1 h2)
  simp only at this
  rw[this]
 have e1:m.ai.getD v.toNat ⟨-1,[],false,0⟩=⟨-1,[],false,0⟩:=by rw[List.getD_eq_getElem?_getD,List.getElem?_eq_none (by omega)];rfl
 have e2:l.ai.getD v.toNat ⟨-1,[],false,0⟩=⟨-1,[],false,0⟩:=by rw[List.getD_eq_getElem?_getD,List.getElem?_eq_none (by omega)];rfl
 rw[e1,e2]
theorem vS {l m:aI} (h:gq l=some m) (k:Int):∀ n,dQ m k n=dQ l k n
 | 0=>rfl
 | n+1=>by unfold dQ;rw[vS h k n,rW h]
theorem Fj {L:aI} {k:Nat} {u a b:Int} {s:ByteArray} {c:Int} (hc:0 <= c) (h:(dL L (dY L k u a b s)).2.2=0) :
 dQ (dL L (dY L k u a b s)).1 c L.ai.length=dQ L c L.ai.length:=by
 obtain⟨hg,he,hf,e,_⟩:=nY h;rw[e,vS (jZ (lg hg he) hf).1];exact Fp hg hc he
def kZ (L:aI) (k:Int):Nat -> Int
 | 0=>0
 | n+1=>kZ L k n+L.aK n k / 2147483648
def kT (L:aI) (k:Int):Nat -> Int
 | 0=>0
 | n+1=>kT L k n+L.aK n k % 2147483648
theorem halves (L:aI) (k:Int):∀ n,dQ L k n=kZ L k n*2147483648+kT L k n
 | 0=>rfl
 | n+1=>by
   unfold dQ kZ kT;rw[halves L k n];omega
theorem pz (L:aI) (k:Int):∀ n:Nat,0 <= kT L k n /\ kT L k n <= n*2147483648
 | 0=>⟨Int.le_refl _,Int.le_refl _⟩
 | n+1=>by
   obtain⟨h1,h2⟩:=pz L k n;unfold kT;omega
theorem ED {L M:aI} {k:Int} {n:Nat} (h:dQ M k n=dQ L k n) :
 kZ L k n - kZ M k n+(kT L k n / 2147483648 - kT M k n / 2147483648)=0 /\ kT L k n % 2147483648=kT M k n % 2147483648:=by
 rw[halves,halves] at h;omega
end Go.Proofs.YtfknkmlocbojhaaGreatDoor
namespace Go.Bw
open Classical
def sumP (f:Pos -> Int):List Pos -> Int
 | []=>0
 | p::r=>f p+sumP f r
theorem yQ (f g:Pos -> Int):∀ ps,sumP f ps+sumP g ps=sumP (fun p=>f p+g p) ps
 | []=>rfl
 | p::r=>by unfold sumP;rw[<- yQ f g r];omega
theorem iM {f g:Pos -> Int}:∀ {ps:List Pos},(∀ p∈ps,f p=g p) -> sumP f ps=sumP g ps
 | [],h=>rfl
 | p::r,h=>by unfold sumP;rw[h p (List.mem_cons_self ..),iM fun q hq=>h q (List.mem_cons_of_mem _ hq)]
theorem GU (f:Pos -> Int) (g:Pos -> Pos):∀ ps,sumP f (ps.map g)=sumP (fun p=>f (g p)) ps
 | []=>rfl
 | p::r=>by rw[List.map_cons];unfold sumP;rw[GU f g r]
theorem wE {f:Pos -> Int} {q:Pos -> Bool}:∀ {ps:List Pos},(∀ p∈ps,q p=false -> f p=0) -> sumP f (ps.filter q)=sumP f ps
 | [],h=>rfl
 | p::r,h=>by
   have:=wE (f:=f) (q:=q) (ps:=r) fun x hx=>h x (List.mem_cons_of_mem _ hx)
   cases hq:q p with
   | true=>rw[List.filter_cons_of_pos hq];unfold sumP;rw[this]
   | false =>
     rw[List.filter_cons_of_neg (by rw[hq];decide)];have e:=h p (List.mem_cons_self ..) hq;rw[this]
     show _=f p+sumP f r
     omega
theorem sF (f:Pos -> Option (Int×Int)) (c:Pos -> Int) (v k:Int):∀ ps,ve f c v k ps=sumP (fun p=>if p.aJ=v /\ c p=k then (match f p with|.none=>0|.some x=>x.1) else 0) ps
 | []=>rfl
 | p::r=>by
   unfold ve sumP;rw[sF f c v k r]
   cases f p with
   | none=>simp
   | some x=>rfl
def fB (W:Pos -> Int×Int) (hit:Pos -> Bool):List Pos -> Int -> Int×Bool
 | [],all=>(all,true)
 | p::r,all=>if hit p=true then (if (W p).2=0 then (if (fK all (W p).1).2=0 then fB W hit r (fK all (W p).1).1 else (0,false)) else (0,false)) else fB W hit r all
theorem qM {W:Pos -> Int×Int} {hit:Pos -> Bool}:∀ {ps:List Pos} {all:Int},(fB W hit ps all).2=true -> (fB W hit ps all).1=all+sumP (fun p=>if hit p=true then (W p).1 else 0) ps /\ ∀ p∈ps,hit p=true -> (W p).2=0
 | [],all,h=>⟨by simp[fB,sumP],by simp⟩
 | p::r,all,h=>by
   unfold fB at h ⊢;by_cases h1:hit p=true
   ·rw[if_pos h1] at h ⊢;by_cases h2:(W p).2=0
    ·rw[if_pos h2] at h ⊢;by_cases h3:(fK all (W p).1).2=0
     ·rw[if_pos h3] at h ⊢;obtain⟨e1,e2⟩:=qM h;refine⟨?_,fun q hq hh=>?_⟩
      ·rw[e1,DZ h3]
       show _=all+((if hit p=true then (W p).1 else 0)+sumP _ r)
       rw[if_pos h1,Int.add_assoc]
      rcases List.mem_cons.1 hq with hq|hq
      ·rw[hq];exact h2
      exact e2 q hq hh
     rw[if_neg h3] at h;cases h
    rw[if_neg h2] at h;cases h
   rw[if_neg h1] at h ⊢;obtain⟨e1,e2⟩:=qM h;refine⟨?_,fun q hq hh=>?_⟩
   ·rw[e1]
    show _=all+((if hit p=true then (W p).1 else 0)+sumP _ r)
    rw[if_neg h1,Int.zero_add]
   rcases List.mem_cons.1 hq with hq|hq
   ·rw[hq] at hh;exact absurd hh h1
   exact e2 q hq hh
def rQ (L:aI) (p:Pos):Int:=if (L.ins p.instr).aO=0 \/ L.day <= (L.ins p.instr).aO then (dB (L.ins p.instr) p.qty ((pF (L.ins p.instr) (L.und (L.ins p.instr).under) L.day).1 - (L.ins p.instr).mark)).1 else 0
theorem uy {L:aI} (h:L.Good) {n:Nat} (hn:n<L.af.length) {v k:Int} (hv:1 <= v) (hk:0 <= k) (he:(dA L n).2=0) :
 (dA L n).1.aK v k=L.aK v k+sumP (fun p=>if p.instr=n /\ p.aJ=v /\ L.bH p.instr=k then (dB (L.ins p.instr) p.qty ((pF (L.ins p.instr) (L.und (L.ins p.instr).under) L.day).1 - (L.ins p.instr).mark)).1 else 0) L.ak /\
 (dA L n).1.af=L.af.set n { L.ins n with mark:=(pF (L.ins n) (L.und (L.ins n).under) L.day).1 }:=by
 obtain⟨n1,n2⟩:=xq h hn;unfold dA at he ⊢;rw[if_pos n1] at he ⊢;by_cases h1:(pF (L.ins n) (L.und (L.ins n).under) L.day).1 <= 100000000000000
 ·rw[if_pos h1] at he ⊢;by_cases h2:(dh (gZ L n) (fun _=>L.bH n) 0 L.ak L).2=0
  ·rw[if_pos h2];refine⟨?_,rfl⟩;have t:=pI (v:=v) (k:=k) (frm:=0) (by omega) hk (fun p hp hq=>by
    have e:p.instr=n:=by
     by_cases e:p.instr=n
     ·exact e
     unfold gZ at hq;rw[if_neg e] at hq;exact absurd rfl hq
    have:=h.pays (frm:=0) ⟨by decide,by decide⟩ hp;rw[e] at this;exact this) h2
   rw[if_neg (by omega),sF] at t;refine Eq.trans (b:=(dh (gZ L n) (fun _=>L.bH n) 0 L.ak L).1.aK v k) rfl ?_;rw[t,Int.sub_zero]
   congr 1
   refine iM fun p hp=>?_
   unfold gZ;by_cases e:p.instr=n
   ·simp[e]
   simp[e]
  rw[if_neg h2] at he;exact absurd he h2
 rw[if_neg h1] at he;exact absurd he (by decide)
theorem jI.bH {L M:aI} (h:jI L M) {n:Nat} (hn:M.ins n=L.ins n):M.bH n=L.bH n:=by
 unfold aI.bH aI.und;rw[hn,h.ah]
theorem rP {L:aI} {v k:Int} (hv:1 <= v) (hk:0 <= k) (hL:L.Good):∀ {r:List Ins} {n:Nat} {M:aI} (D:jI L M) (hr:r=L.af.drop n) (hM:∀ j:Nat,n <= j -> M.ins j=L.ins j) (he:(eU n r M).2=0),
 (eU n r M).1.aK v k=M.aK v k+sumP (fun p=>if (n:Int) <= p.instr /\ p.aJ=v /\ L.bH p.instr=k then rQ L p else 0) L.ak
 | [],n,M,D,hr,hM,he=>by
   have hn:L.af.length <= n:=by have:=congrArg List.length hr;simp at this;omega
   show M.aK v k=_
   rw[iM (g:=fun _=>0) fun p hp=>by
    have:=(hL.ak.all p hp).2.2.2.1;rw[if_neg (by omega)]]
   have z:∀ ps:List Pos,sumP (fun _=>0) ps=0:=fun ps=>by
    induction ps with
    | nil=>rfl
    | cons p r ih=>unfold sumP;rw[ih];rfl
   rw[z];omega
 | i::r,n,M,D,hr,hM,he=>by
   have hn:n<L.af.length:=by
    have:=congrArg List.length hr
    simp at this;omega
   have hd:L.af.drop n=L.af[n]::L.af.drop (n+1):=List.drop_eq_getElem_cons hn;rw[hd] at hr;injection hr with hi hr;have hin:i=L.ins n:=by
    rw[hi];unfold aI.ins;rw[List.getD_eq_getElem?_getD,Int.toNat_natCast,List.getElem?_eq_getElem hn];rfl
   have hMl:M.af.length=L.af.length:=by have:=congrArg List.length D.af;simpa using this
   unfold eU at he ⊢;by_cases h1:i.aO=0 \/ M.day <= i.aO
   ·rw[if_pos h1] at he ⊢;by_cases h2:(dA M n).2=0
    ·rw[if_pos h2] at he ⊢;obtain⟨c1,c2⟩:=uy D.good (by omega) hv hk h2;have D2:=D.trans (jQ D.good (by omega) h2);have t:=rP hv hk hL D2 hr (fun j hj=>by
      rw[<- hM j (by omega)];unfold aI.ins;rw[c2,List.getD_eq_getElem?_getD,List.getElem?_set_ne (by simp;omega),List.getD_eq_getElem?_getD]) he
     rw[t,c1,D.ak,Int.add_assoc,yQ]
     congr 1
     refine iM fun p hp=>?_
     by_cases e:p.instr=n
     ·have e1:M.ins p.instr=L.ins p.instr:=by rw[e];exact hM n (Nat.le_refl _)
      have e2:M.bH p.instr=L.bH p.instr:=by rw[e];exact D.bH (hM n (Nat.le_refl _))
      have e3:rQ L p=(dB (L.ins p.instr) p.qty ((pF (L.ins p.instr) (L.und (L.ins p.instr).under) L.day).1 - (L.ins p.instr).mark)).1:=by
       unfold rQ;rw[if_pos (by rw[e,<- hin,<- D.day];exact h1)]
      have e4:M.und (L.ins p.instr).under=L.und (L.ins p.instr).under:=by unfold aI.und;rw[D.ah]
      rw[e1,e2,e3,e4,D.day];by_cases a:p.aJ=v /\ L.bH p.instr=k
      ·rw[if_pos ⟨e,a⟩,if_neg (by omega),if_pos ⟨by omega,a⟩];omega
      rw[if_neg (fun h=>a h.2),if_neg (fun h=>a h.2),if_neg (fun h=>a h.2)];rfl
     rw[if_neg (fun h=>e h.1)];by_cases a:p.aJ=v /\ L.bH p.instr=k
     ·by_cases b:(n:Int) <= p.instr
      ·rw[if_pos ⟨by omega,a⟩,if_pos ⟨b,a⟩];omega
      rw[if_neg (fun h=>by omega),if_neg (fun h=>b h.1)];rfl
     rw[if_neg (fun h=>a h.2),if_neg (fun h=>a h.2)];rfl
    rw[if_neg h2] at he;exact absurd he h2
   rw[if_neg h1] at he ⊢;rw[rP hv hk hL D hr (fun j hj=>hM j (by omega)) he]
   congr 1
   refine iM fun p hp=>?_
   by_cases e:p.instr=n
   ·have e3:rQ L p=0:=by unfold rQ;rw[if_neg (by rw[e,<- hin,<- D.day];exact h1)]
    rw[e3];split <;> split <;> rfl
   by_cases a:p.aJ=v /\ L.bH p.instr=k
   ·by_cases b:(n:Int) <= p.instr
    ·rw[if_pos ⟨by omega,a⟩,if_pos ⟨b,a⟩]
    rw[if_neg (fun h=>by omega),if_neg (fun h=>b h.1)]
   rw[if_neg (fun h=>a h.2),if_neg (fun h=>a h.2)]
theorem Lc {L:aI} (h:L.Good) {v k:Int} (hv:1 <= v) (hk:0 <= k) (he:(jf L).err=0) :
 (jf L).led.aK v k=L.aK v k+sumP (fun p=>if p.aJ=v /\ L.bH p.instr=k then rQ L p else 0) L.ak:=by
 unfold jf at he ⊢;by_cases h1:L.day<100000
 ·rw[if_pos h1] at he ⊢;by_cases h2:(eU 0 L.af L).2=0
  ·rw[if_pos h2];have t:=rP hv hk h (n:=0) (M:=L) ⟨h,rfl,rfl,rfl,rfl,rfl,rfl,rfl,rfl,rfl⟩ (r:=L.af) (by simp) (fun _ _=>rfl) h2;refine Eq.trans (b:=(eU 0 L.af L).1.aK v k) rfl (t.trans ?_)
   congr 1
   refine iM fun p hp=>?_
   have:=(h.ak.all p hp).2.2.1;by_cases a:p.aJ=v /\ L.bH p.instr=k
   ·rw[if_pos ⟨by omega,a⟩,if_pos a]
   rw[if_neg (fun h=>a h.2),if_neg a]
  rw[if_neg h2] at he;exact absurd he h2
 rw[if_neg h1] at he;exact absurd (gX he) (by decide)
theorem Af (b:Int):(fV 0 b).1=0:=by
 unfold fV
 split
 ·simp[kU]
 rfl
theorem Hf (i:Ins) (v:Int):(dB i 0 v).1=0:=by
 unfold dB
 split
 ·rw[Af];exact Af v
 rfl
theorem yD {f:Pos -> Option (Int×Int)} {c:Pos -> Int} {frm:Int}:∀ {ps:List Pos} {L:aI},(dh f c frm ps L).2=0 -> ∀ p∈ps,∀ x,f p=some x -> x.2=0
 | [],L,h,p,hp,x,hx=>by cases hp
 | q::r,L,h,p,hp,x,hx=>by
   unfold dh at h
   cases hq:f q with
   | none =>
     rw[hq] at h;rcases List.mem_cons.1 hp with e|hp
     ·rw[e,hq] at hx;cases hx
     exact yD h p hp x hx
   | some y =>
     rw[hq] at h
     simp only at h
     by_cases h1:y.2=0
     ·rw[if_pos h1] at h;rcases List.mem_cons.1 hp with e|hp
      ·rw[e,hq] at hx;cases hx;exact h1
      split at h
      ·exact yD h p hp x hx
      rename_i h2;exact absurd h h2
     rw[if_neg h1] at h;exact absurd h h1
theorem MC {num den:Int} {i:Ins} {q:Int} (h:(nN num den i q).2=0) :
 (nN num den i q).1+(dB i (dI num den q).1 (gB num den i.mark).1).1=(dB i q i.mark).1:=by
 unfold nN at h ⊢
 split at h
 ·rename_i h1;rw[if_pos h1]
  split at h
  ·rename_i h2;rw[if_pos h2]
   split at h
   ·rename_i h3;rw[if_pos h3,GK h];omega
   rename_i h3;exact absurd h h3
  rename_i h2;exact absurd h h2
 rename_i h1;exact absurd h h1
theorem sV {L:aI} {u num den:Int} {n:Int} (h0:0 <= n) (h1:n<L.af.length):(L.split u num den).ins n=if (L.ins n).under=u then rq num den (L.ins n) else L.ins n:=by
 have hn:=getD_at L.af n.toNat ⟨0,0,0,0,0,false,0⟩ (by omega)
 show (fQ u num den L.af).getD n.toNat _=_
 unfold fQ;rw[List.getD_eq_getElem?_getD,List.getElem?_map,hn];rfl
theorem zD {L:aI} {u num den:Int} (hu:0 <= u /\ u<L.ah.length) (n:Int):((L.split u num den).und n).cur=(L.und n).cur:=by
 unfold aI.und
 show ((L.ah.set u.toNat _).getD n.toNat _).cur=_
 rw[List.getD_eq_getElem?_getD,List.getElem?_set];by_cases e:u.toNat=n.toNat
 ·rw[if_pos e,if_pos (by omega)]
  show (L.und u).cur=_
  unfold aI.und;rw[e]
 rw[if_neg e,List.getD_eq_getElem?_getD]
theorem uF {L:aI} {u num den:Int} (hu:0 <= u /\ u<L.ah.length) {n:Int} (h0:0 <= n) (h1:n<L.af.length):(L.split u num den).bH n=L.bH n:=by
 unfold aI.bH;rw[zD hu,sV h0 h1]
 split <;> rfl
def su (L:aI) (v k:Int):Int:=sumP (fun p=>if p.aJ=v /\ L.bH p.instr=k then (dB (L.ins p.instr) p.qty (L.ins p.instr).mark).1 else 0) L.ak
theorem Dz {L:aI} (h:L.Good) {u num den v k:Int} (hv:2 <= v) (hk:0 <= k) (he:(dw L u num den).err=0) :
 (dw L u num den).led.aK v k+su (dw L u num den).led v k=L.aK v k+su L v k:=by
 obtain⟨h1,h2,h3,h4,h5,h6,h7,e⟩:=sU he;have K:=iJ (f:=jh L u num den) (c:=fun p=>L.bH p.instr) (frm:=1) (ps:=L.ak) (L:=L.split u num den) ⟨by decide,h.two⟩ (fun p hp=>by
  obtain⟨a1,a2,_⟩:=h.ak.all p hp;exact⟨by omega,a2⟩) h6
 have t:=pI (L:=L.split u num den) (v:=v) (k:=k) (by omega) hk (fun p hp hq=>by
  have:=h.pays (frm:=1) ⟨by decide,by decide⟩ hp;exact⟨this.1.ai (M:=L.split u num den) rfl,this.2.ai (M:=L.split u num den) rfl⟩) h6
 rw[if_neg (by omega),sF,Int.sub_zero] at t;have ok:=yD h6;rw[e];generalize hR:(dh (jh L u num den) (fun p=>L.bH p.instr) 1 L.ak (L.split u num den)).1=R at *;have ei:∀ n,aI.ins { R with ak:=(bg L u num den L.ak).filter (fun p=>decide (p.qty≠0)),aP:=(bg L u num den L.aP).filter (fun p=>decide (0<p.qty)),orders:=L.orders.filter (fun o=>!L.over u o.instr) } n=(L.split u num den).ins n:=fun n=>by
  unfold aI.ins;simp only;rw[K.af]
 have ec:∀ n,aI.bH { R with ak:=(bg L u num den L.ak).filter (fun p=>decide (p.qty≠0)),aP:=(bg L u num den L.aP).filter (fun p=>decide (0<p.qty)),orders:=L.orders.filter (fun o=>!L.over u o.instr) } n=(L.split u num den).bH n:=fun n=>by
  unfold aI.bH;rw[ei];unfold aI.und;simp only;rw[K.ah]
 have e0:(L.split u num den).aK v k=L.aK v k:=rfl;unfold su
 simp only[ei,ec]
 show R.aK v k+sumP _ ((bg L u num den L.ak).filter fun p=>decide (p.qty≠0))=_
 rw[t,e0,wE (fun p hp hq=>by
  have hz:p.qty=0:=by simpa using hq
  rw[hz,Hf];split <;> rfl)]
 unfold bg;rw[GU,Int.add_assoc,yQ]
 congr 1
 refine iM fun p hp=>?_
 obtain⟨a1,a2,a3,a4,_⟩:=h.ak.all p hp;have o:=ok p hp;unfold jh at o ⊢;by_cases ov:L.over u p.instr=true
 ·have ou:(L.ins p.instr).under=u:=by simpa [aI.over] using ov
  rw[if_pos ov] at o;have o2:=MC (o _ rfl)
  simp only[ov,if_true]
  rw[sV a3 a4,uF h1 a3 a4,if_pos ou];by_cases w:p.aJ=v /\ L.bH p.instr=k
  ·rw[if_pos w,if_pos w,if_pos w];exact o2
  rw[if_neg w,if_neg w,if_neg w];rfl
 have ou:¬ (L.ins p.instr).under=u:=by simpa [aI.over] using ov
 rw[if_neg ov,if_neg ov];rw[sV a3 a4,uF h1 a3 a4,if_neg ou];by_cases w:p.aJ=v /\ L.bH p.instr=k
 ·rw[if_pos w,if_pos w];simp
 rw[if_neg w,if_neg w];rfl
def Acc.shape (a:Acc):Int×Bool×Int×Nat:=(a.parent,a.flag,a.last,a.aK.length)
theorem Ej {L:aI} (h:L.Good) (he:(jf L).err=0) :
 (jf L).led.day=L.day+1 /\ (jf L).num=L.day+1 /\ (jf L).led.orders=[] /\ (jf L).led.aP=[] /\ (jf L).led.aG=List.replicate L.af.length 0 /\
 (jf L).led.ak=L.ak.filter (fun p=>mX L.day (L.ins p.instr)) /\ (jf L).led.aT=L.aT /\ (jf L).led.ah=L.ah /\
 (jf L).led.af.map Ins.noMark=L.af.map Ins.noMark /\ (jf L).led.ai.map Acc.shape=L.ai.map Acc.shape:=by
 unfold jf at he ⊢;by_cases h1:L.day<100000
 ·rw[if_pos h1] at he ⊢;by_cases h2:(eU 0 L.af L).2=0
  ·rw[if_pos h2];have k:=nI h (by simp) h2;exact⟨rfl,rfl,rfl,rfl,rfl,rfl,k.aT,k.ah,k.af,k.ai⟩
  rw[if_neg h2] at he;exact absurd he h2
 rw[if_neg h1] at he;exact absurd (gX he) (by decide)
theorem Es {L:aI} (h:L.Good) {u x:Int} (he:(jL L u x).err=0):fF L (jL L u x).led /\ (jL L u x).num=u /\ 0 <= u /\ u<L.ah.length:=by
 unfold jL at he ⊢;by_cases h1:0 <= u /\ u<L.ah.length
 ·rw[if_pos h1] at he ⊢;by_cases h2:0 <= x /\ x <= 1000000000000
  ·rw[if_pos h2] at he ⊢;by_cases h3:(dh (Ep L u x) (fun p=>L.bH p.instr) 0 L.ak L).2=0
   ·rw[if_pos h3];exact⟨iJ ⟨Int.le_refl _,mV h⟩ (fun p hp=>by
     obtain⟨a1,a2,_⟩:=h.ak.all p hp;omega) h3,rfl,h1⟩
   rw[if_neg h3] at he;exact absurd he h3
  rw[if_neg h2] at he;exact absurd (gX he) (by decide)
 rw[if_neg h1] at he;exact absurd (gX he) (by decide)
theorem MV {L:aI} {u:Int} {s:ByteArray} (he:(jk L u s).err=0) :
 (0 <= u /\ u<L.ah.length) /\ jk L u s=⟨{ L with ah:=L.ah.set u.toNat { L.und u with name:=s } },u,0⟩:=by
 unfold jk at he ⊢;by_cases h1:0 <= u /\ u<L.ah.length
 ·rw[if_pos h1] at he ⊢;by_cases h2:nameB s=true /\ ∀ x∈L.ah,x.name≠s
  ·rw[if_pos h2];exact⟨h1,rfl⟩
  rw[if_neg h2] at he;exact absurd (gX he) (by decide)
 rw[if_neg h1] at he;exact absurd (gX he) (by decide)
theorem zB {L:aI} (h:L.Good) {u num den:Int} (he:(dw L u num den).err=0) :
 (0 <= u /\ u<L.ah.length) /\ (dw L u num den).num=u /\ (dw L u num den).led.day=L.day /\ (dw L u num den).led.aT=L.aT /\
 (dw L u num den).led.ah=L.ah.set u.toNat { L.und u with price:=(gB num den (L.und u).price).1 } /\
 (dw L u num den).led.af=fQ u num den L.af /\ (dw L u num den).led.ai.map Acc.shape=L.ai.map Acc.shape:=by
 obtain⟨h1,h2,h3,h4,h5,h6,h7,e⟩:=sU he;have K:=iJ (f:=jh L u num den) (c:=fun p=>L.bH p.instr) (frm:=1) (ps:=L.ak) (L:=L.split u num den) ⟨by decide,h.two⟩ (fun p hp=>by
  obtain⟨a1,a2,_⟩:=h.ak.all p hp;exact⟨by omega,a2⟩) h6
 rw[e];exact⟨h1,rfl,K.day,K.aT,K.ah,K.af,K.ai⟩
theorem fD {N:aI} {l:List Ins} {n:Nat} {x:Ins} (e:N.af=l.set n x) (hn:n<l.length):N.ins n=x:=by
 unfold aI.ins;rw[e,List.getD_eq_getElem?_getD,Int.toNat_natCast,List.getElem?_set_self hn];rfl
def dF (L:aI) (i:Ins):Int:=if i.aO=0 \/ L.day <= i.aO then (pF i (L.und i.under) L.day).1 else i.mark
theorem qp {L:aI} (hL:L.Good):∀ {r:List Ins} {n:Nat} {M:aI} (D:jI L M) (hr:r=L.af.drop n) (hM:∀ j:Nat,n <= j -> M.ins j=L.ins j) (he:(eU n r M).2=0) (j:Nat),
 (eU n r M).1.ins j=if n <= j /\ j<L.af.length then { L.ins j with mark:=dF L (L.ins j) } else M.ins j
 | [],n,M,D,hr,hM,he,j=>by
   have hn:L.af.length <= n:=by have:=congrArg List.length hr;simp at this;omega
   rw[if_neg (by omega)];rfl
 | i::r,n,M,D,hr,hM,he,j=>by
   have hn:n<L.af.length:=by
    have:=congrArg List.length hr
    simp at this;omega
   have hd:L.af.drop n=L.af[n]::L.af.drop (n+1):=List.drop_eq_getElem_cons hn;rw[hd] at hr;injection hr with hi hr;have hin:i=L.ins n:=by
    rw[hi];unfold aI.ins;rw[List.getD_eq_getElem?_getD,Int.toNat_natCast,List.getElem?_eq_getElem hn];rfl
   have hMl:M.af.length=L.af.length:=by have:=congrArg List.length D.af;simpa using this
   have hMn:=hM n (Nat.le_refl _);unfold eU at he ⊢;by_cases h1:i.aO=0 \/ M.day <= i.aO
   ·rw[if_pos h1] at he ⊢;by_cases h2:(dA M n).2=0
    ·rw[if_pos h2] at he ⊢;obtain⟨_,c2⟩:=uy (v:=1) (k:=0) D.good (by omega) (by decide) (by decide) h2;have D2:=D.trans (jQ D.good (by omega) h2);have en:(dA M n).1.ins n={ L.ins n with mark:=dF L (L.ins n) }:=by
      rw[fD c2 (by omega)];have e4:M.und (M.ins n).under=L.und (L.ins n).under:=by
       have:M.ins n=L.ins n:=hM n (Nat.le_refl _);rw[this];unfold aI.und;rw[D.ah]
      have e5:M.ins n=L.ins n:=hM n (Nat.le_refl _);rw[e4,e5,D.day];unfold dF;rw[<- D.day,if_pos (show (L.ins n).aO=0 \/ M.day <= (L.ins n).aO by rw[<- hin];exact h1)]
     have eo:∀ j:Nat,j≠n -> (dA M n).1.ins j=M.ins j:=fun j hj=>by
      unfold aI.ins;rw[c2,List.getD_eq_getElem?_getD,List.getElem?_set_ne (by simp;omega),List.getD_eq_getElem?_getD]
     have t:=qp hL D2 hr (fun j hj=>by rw[eo j (by omega)];exact hM j (by omega)) he j;rw[t];by_cases e:j=n
     ·subst e;rw[if_neg (by omega),if_pos ⟨Nat.le_refl _,hn⟩];exact en
     by_cases a:n <= j /\ j<L.af.length
     ·rw[if_pos a,if_pos ⟨by omega,a.2⟩]
     rw[if_neg a,if_neg (by omega),eo j e]
    rw[if_neg h2] at he;exact absurd he h2
   rw[if_neg h1] at he ⊢;rw[qp hL D hr (fun j hj=>hM j (by omega)) he j];by_cases e:j=n
   ·subst e;rw[if_neg (by omega),if_pos ⟨Nat.le_refl _,hn⟩,hMn];have:dF L (L.ins j)=(L.ins j).mark:=by unfold dF;rw[if_neg (by rw[<- hin,<- D.day];exact h1)]
    rw[this]
   by_cases a:n <= j /\ j<L.af.length
   ·rw[if_pos a,if_pos ⟨by omega,a.2⟩]
   rw[if_neg a,if_neg (by omega)]
theorem Ih {L:aI} (h:L.Good) (he:(jf L).err=0) {j:Nat} (hj:j<L.af.length):(jf L).led.ins j={ L.ins j with mark:=dF L (L.ins j) }:=by
 unfold jf at he ⊢;by_cases h1:L.day<100000
 ·rw[if_pos h1] at he ⊢;by_cases h2:(eU 0 L.af L).2=0
  ·rw[if_pos h2];have t:=qp h (n:=0) (M:=L) ⟨h,rfl,rfl,rfl,rfl,rfl,rfl,rfl,rfl,rfl⟩ (r:=L.af) (by simp) (fun _ _=>rfl) h2 j;rw[if_pos ⟨Nat.zero_le _,hj⟩] at t;exact t
  rw[if_neg h2] at he;exact absurd he h2
 rw[if_neg h1] at he;exact absurd (gX he) (by decide)
end Go.Bw
namespace Go.Proofs.YtfknkmlocbojhaaGreatDoor
open Go.RowKit Go.Bw Go.Maps Go.Shelf Go.Bw.Fall
def pU:aI:=⟨0,[⟨1000000,0⟩],[⟨⟨#[65]⟩,0,101,0⟩],[⟨1,0,1,0,0,false,101⟩],[⟨-1,[0],false,0⟩,⟨-1,[0],false,0⟩,⟨-1,[1000],false,0⟩],[⟨2,0,5⟩],[],[0],[]⟩
def uP:aI:=⟨0,[⟨1000000,0⟩],[⟨⟨#[65]⟩,0,67,0⟩],[⟨1,0,1,0,0,false,67⟩],[⟨-1,[0],false,0⟩,⟨-1,[-36],false,0⟩,⟨-1,[1036],false,0⟩],[⟨2,0,7⟩],[],[0],[]⟩
def y9:aI:=⟨0,[⟨1000000,0⟩],[⟨⟨#[65]⟩,0,101,0⟩],[⟨1,0,1,0,0,false,101⟩],[⟨-1,[-20],false,0⟩,⟨-1,[0],false,0⟩,⟨-1,[1020],false,0⟩],[⟨2,0,5⟩],[],[0],[]⟩
theorem I7 {α:Type} {x:α} {n:Nat} {y:α} (h:[x][n]?=some y):n=0 /\ y=x:=by
 have h1:=(List.getElem?_eq_some_iff.1 h).1;have:n=0:=by simpa using h1
 subst this;exact⟨rfl,by simpa using h.symm⟩
theorem yH {α:Type} {lt:α -> α -> Prop} {l:List α} (h:l.length <= 1):jl lt l:=fun i a b ha hb=>by
 have:=(List.getElem?_eq_some_iff.1 hb).1;omega
theorem tK:pU.Good:=by
 refine⟨by decide,by decide,⟨by decide,by decide,by decide,by decide,?_,?_,?_,?_⟩,⟨⟨by decide,by decide,?_⟩,?_⟩,⟨by decide,?_,yH (by decide)⟩,⟨by decide,by simp[pU],yH (by decide)⟩,⟨by decide,by decide,?_,?_,yH (by decide)⟩,by simp[pU]⟩
 ·intro n c hc;obtain⟨rfl,rfl⟩:=I7 hc;exact⟨by decide,by decide,by decide,by decide,fun _=>rfl⟩
 ·intro n c hc;obtain⟨rfl,rfl⟩:=I7 hc;exact⟨by decide,by decide,by decide,by decide,by decide,by decide,by decide⟩
 ·intro n k u v hk hu;obtain⟨rfl,rfl⟩:=I7 hu;omega
 ·intro i hi
  simp only[pU,List.mem_cons,List.not_mem_nil,or_false] at hi
  subst hi;exact⟨by decide,by decide,by decide,by decide,by decide,by decide,Or.inl (by decide)⟩
 ·intro v p hp
  left
  have:=List.mem_of_getElem? hp
  simpa [pU] using this
 ·intro v a ha
  match v,ha with
  | 0,ha=>cases ha;exact⟨rfl,by decide,by decide,fun _=>⟨rfl,rfl⟩,by decide⟩
  | 1,ha=>cases ha;exact⟨rfl,by decide,by decide,fun _=>⟨rfl,rfl⟩,by decide⟩
  | 2,ha=>cases ha;exact⟨rfl,by decide,by decide,fun h=>by omega,by decide⟩
  | v+3,ha=>simp[pU] at ha
 ·intro p hp
  simp only[pU,List.mem_cons,List.not_mem_nil,or_false] at hp
  subst hp;exact⟨by decide,by decide,by decide,by decide,by decide,by decide,by decide⟩
 ·intro q hq
  simp only[pU,List.mem_cons,List.not_mem_nil,or_false] at hq
  subst hq;decide
 intro x hx;simp[pU] at hx
theorem tJ:jL pU 0 4=⟨y9,0,0⟩:=by
 unfold jL;rw[if_pos (by decide),if_pos (by decide),if_pos (by decide +kernel)];have:(dh (Ep pU 0 4) (fun p=>pU.bH p.instr) 0 pU.ak pU).1=y9:=by kernel_rfl
 rw[this]
theorem oq:dw pU 0 3 2=⟨uP,0,0⟩:=by
 unfold dw;rw[if_pos (by decide),if_pos (by decide),if_pos (by decide +kernel),if_pos ⟨by decide +kernel,by decide,by decide,by decide +kernel,by decide +kernel,by decide,by decide⟩,if_pos ?_,if_pos (by decide +kernel),if_pos (by decide +kernel)]
 ·have:(dh (jh pU 0 3 2) (fun p=>pU.bH p.instr) 1 pU.ak (pU.split 0 3 2)).1={ uP with ak:=pU.ak }:=by kernel_rfl
  rw[this];have e1:(bg pU 0 3 2 pU.ak).filter (fun p=>decide (p.qty≠0))=uP.ak:=by kernel_rfl
  have e2:(bg pU 0 3 2 pU.aP).filter (fun p=>decide (0<p.qty))=uP.aP:=by kernel_rfl
  rw[e1,e2];rfl
 show gK 0 3 2 1 [⟨1,0,1,0,0,false,101⟩] [0]=0
 unfold gK;have e:zl 3 2 1 ⟨1,0,1,0,0,false,101⟩ 0=0:=by
  unfold zl;rw[if_pos (by decide +kernel),if_pos (by decide +kernel),if_pos ⟨by decide,by decide,by decide,by decide,by decide +kernel,by decide +kernel,Or.inl ⟨by decide,by decide +kernel,by decide,by decide⟩⟩];decide +kernel
 rw[if_pos rfl,if_pos e];rfl
theorem Ii:gq uP=some uP:=by kernel_rfl
theorem Ij:gq y9=some y9:=by kernel_rfl
theorem Lh:uP.Good:=by
 have:=qH tK (u:=0) (num:=3) (den:=2) (by rw[oq]);rw[oq] at this;exact this
theorem Lj:y9.Good:=by
 have:=uO tK (u:=0) (x:=4) (by rw[tJ]);rw[tJ] at this;exact this
theorem Ik:dL pU (dw pU 0 3 2)=(uP,0,0):=by
 have hf:=ku Lh Ii;rw[qR tK (by rw[oq]) (by rw[oq,hf]),oq,hf]
theorem OX:dL pU (jL pU 0 4)=(y9,0,0):=by
 have hf:=ku Lj Ij;rw[qR tK (by rw[tJ]) (by rw[tJ,hf]),tJ,hf]
end Go.Proofs.YtfknkmlocbojhaaGreatDoor
namespace Go.Proofs.YtfknkmlocbojhaaGreatDoor
open Go.RowKit Go.Bw Go.Maps Go.Shelf
theorem Gp {i:Ins} {q v:Int} (hq:aY q=true):kN [q,i.mult,v] 1=dB i q v:=by
 have h1:fV 1 q=(q,0):=by rw[l9,Int.one_mul,if_pos ⟨rfl,hq,hq⟩]
 unfold kN;rw[h1]
 simp only[ne_eq,not_true_eq_false,if_false]
 unfold kN dB;by_cases h2:(fV q i.mult).2=0
 ·rw[if_neg (fun h=>h h2),if_pos h2];unfold kN;by_cases h3:(fV (fV q i.mult).1 v).2=0
  ·rw[if_neg (fun h=>h h3)];unfold kN;exact Prod.ext rfl h3.symm
  rw[if_pos h3];rcases jT (fV q i.mult).1 v with e|e
  ·exact absurd e.1 h3
  rw[e]
 rw[if_pos h2,if_neg h2]
end Go.Proofs.YtfknkmlocbojhaaGreatDoor
