/- Joined: LifP, LifQ, LifR, LifT, LifS, LifU, LifE, LifY. -/
import Derived.Test.YtcepekniflaoaaaGreatDoorGm
import Derived.Test.YtcepekniflaoaaaGreatDoorGn
import Derived.Test.YtcepekniflaoaaaGreatDoorGc
set_option linter.unusedVariables false
set_option linter.unusedSimpArgs false
namespace Go.Bw
open Classical
def aI.none:aI:=⟨0,[],[],[],[],[],[],[],[]⟩
def aI.aT (L:aI) (a c:Int):Int:=(L.acc a).aT.getD c.toNat 0
def aI.cZ (L:aI) (a c x:Int):aI:={ L with ai:=L.ai.set a.toNat { L.acc a with aT:=(L.acc a).aT.set c.toNat x } }
def fV (L:aI) (c x f t:Int):aI×Int :=
 if (fG (L.aT f c) x).2=0 then
  if (dO ((L.cZ f c (fG (L.aT f c) x).1).aT t c) x).2=0 then
   ((L.cZ f c (fG (L.aT f c) x).1).cZ t c (dO ((L.cZ f c (fG (L.aT f c) x).1).aT t c) x).1,0)
  else (aI.none,(dO ((L.cZ f c (fG (L.aT f c) x).1).aT t c) x).2)
 else (aI.none,(fG (L.aT f c) x).2)
def dD (f:Pos->Option (Int×Int)) (c:Pos->Int) (frm:Int):List Pos->aI->aI×Int
 | [],L=>(L,0)
 | p::r,L=>match f p with
   | .none=>dD f c frm r L
   | .some x=>if x.2=0 then (if (fV L (c p) x.1 frm p.ak).2=0 then dD f c frm r (fV L (c p) x.1 frm p.ak).1 else (aI.none,(fV L (c p) x.1 frm p.ak).2)) else (aI.none,x.2)
def aI.dI (L:aI) (n:Int):Int:=(L.und (L.ins n).under).cur
def dQ (i:Ins) (q v:Int):Int×Int:=if (eX q i.mult).2=0 then eX (eX q i.mult).1 v else (0,(eX q i.mult).2)
def qI (L:aI) (n:Nat) (p:Pos):Option (Int×Int):=if p.instr=n then some (dQ (L.ins n) p.qty ((zW (L.ins n) (L.und (L.ins n).under) L.day).1 - (L.ins n).mark)) else .none
def iG (L:aI) (n:Nat):aI×Int :=
 if (zW (L.ins n) (L.und (L.ins n).under) L.day).2=0 then
  if (zW (L.ins n) (L.und (L.ins n).under) L.day).1<=100000000000000 then
   if (dD (qI L n) (fun _=>L.dI n) 0 L.aA L).2=0 then
    ({ (dD (qI L n) (fun _=>L.dI n) 0 L.aA L).1 with af:=L.af.set n { L.ins n with mark:=(zW (L.ins n) (L.und (L.ins n).under) L.day).1 } },0)
   else (aI.none,(dD (qI L n) (fun _=>L.dI n) 0 L.aA L).2)
  else (aI.none,4)
 else (aI.none,(zW (L.ins n) (L.und (L.ins n).under) L.day).2)
def oO:Nat->List Ins->aI->aI×Int
 | _,[],L=>(L,0)
 | n,i::r,L=>if i.aN=0\/L.day<=i.aN then (if (iG L n).2=0 then oO (n+1) r (iG L n).1 else (aI.none,(iG L n).2)) else oO (n+1) r L
def Ep (L:aI) (u x:Int) (p:Pos):Option (Int×Int):=if (L.ins p.instr).under=u/\(L.ins p.instr).kind=1 then some (dQ (L.ins p.instr) p.qty x) else .none
def gX (L:aI) (u x:Int):xW :=
 if 0<=u/\u<L.ah.length then
  if 0<=x/\x<=1000000000000 then
   if (dD (Ep L u x) (fun p=>L.dI p.instr) 0 L.aA L).2=0 then ⟨(dD (Ep L u x) (fun p=>L.dI p.instr) 0 L.aA L).1,u,0⟩
   else .no (dD (Ep L u x) (fun p=>L.dI p.instr) 0 L.aA L).2
  else .no 1
 else .no 31
noncomputable def dY (L:aI) (u:Int) (s:ByteArray):xW :=
 if 0<=u/\u<L.ah.length then
  if nameB s=true/\∀ x∈L.ah,x.name≠s then ⟨{ L with ah:=L.ah.set u.toNat { L.und u with name:=s } },u,0⟩ else .no 42
 else .no 31
def gZ (num den v:Int):Int×Int:=jg v den num 0
def dw (num den q:Int):Int×Int :=
 if (jg q num den 2).2=0 then (if -1000000000<=(jg q num den 2).1/\(jg q num den 2).1<=1000000000 then ((jg q num den 2).1,0) else (0,36)) else (0,(jg q num den 2).2)
def qR (num den:Int) (i:Ins):Ins:={ i with strike:=(gZ num den i.strike).1,mark:=(gZ num den i.mark).1 }
noncomputable def yw (num den:Int) (ah:Nat) (i:Ins) (q:Int):Int :=
 if (gZ num den i.strike).2=0 then
  if (gZ num den i.mark).2=0 then
   if (qR num den i).Ok ah then (dw num den q).2 else 37
  else (gZ num den i.mark).2
 else (gZ num den i.strike).2
noncomputable def gJ (u num den:Int) (ah:Nat):List Ins->List Int->Int
 | i::r,q::s=>if i.under=u then (if yw num den ah i q=0 then gJ u num den ah r s else yw num den ah i q) else gJ u num den ah r s
 | _,_=>0
def gU (u num den:Int) (l:List Ins):List Ins:=l.map fun i=>if i.under=u then qR num den i else i
def fD (u num den:Int) (l:List Ins) (qs:List Int):List Int:=List.zipWith (fun i q=>if i.under=u then (dw num den q).1 else q) l qs
def pV (num den:Int) (i:Ins) (q:Int):Int×Int :=
 if (dQ i q i.mark).2=0 then
  if (dw num den q).2=0 then
   if (dQ i (dw num den q).1 (gZ num den i.mark).1).2=0 then fG (dQ i q i.mark).1 (dQ i (dw num den q).1 (gZ num den i.mark).1).1
   else (0,(dQ i (dw num den q).1 (gZ num den i.mark).1).2)
  else (0,(dw num den q).2)
 else (0,(dQ i q i.mark).2)
def aI.over (L:aI) (u:Int) (n:Int):Bool:=decide ((L.ins n).under=u)
def mX (L:aI) (u num den:Int) (p:Pos):Option (Int×Int):=if L.over u p.instr=true then some (pV num den (L.ins p.instr) p.qty) else .none
def bC (L:aI) (u num den:Int) (l:List Pos):List Pos:=l.map fun p=>if L.over u p.instr=true then { p with qty:=(dw num den p.qty).1 } else p
def jT (L:aI) (u num den:Int):List Pos->Int
 | []=>0
 | p::r=>if L.over u p.instr=true then (if (dw num den p.qty).2=0 then jT L u num den r else (dw num den p.qty).2) else jT L u num den r
def aI.split (L:aI) (u num den:Int):aI:={ L with ah:=L.ah.set u.toNat { L.und u with price:=(gZ num den (L.und u).price).1 },af:=gU u num den L.af,aH:=fD u num den L.af L.aH }
noncomputable def fF (L:aI) (u num den:Int):xW :=
 if 0<=u/\u<L.ah.length then
  if 1<=num/\num<=1000/\1<=den/\den<=1000 then
   if (gZ num den (L.und u).price).2=0 then
    if dU.Ok { L.und u with price:=(gZ num den (L.und u).price).1 } L.aQ.length then
     if gJ u num den L.ah.length L.af L.aH=0 then
      if (dD (mX L u num den) (fun p=>L.dI p.instr) 1 L.aA (L.split u num den)).2=0 then
       if jT L u num den L.aV=0 then
        ⟨{ (dD (mX L u num den) (fun p=>L.dI p.instr) 1 L.aA (L.split u num den)).1 with aA:=(bC L u num den L.aA).filter (fun p=>decide (p.qty≠0)),aV:=(bC L u num den L.aV).filter (fun p=>decide (0<p.qty)),orders:=L.orders.filter (fun o=>!L.over u o.instr) },u,0⟩
       else .no (jT L u num den L.aV)
      else .no (dD (mX L u num den) (fun p=>L.dI p.instr) 1 L.aA (L.split u num den)).2
     else .no (gJ u num den L.ah.length L.af L.aH)
    else .no 37
   else .no (gZ num den (L.und u).price).2
  else .no 1
 else .no 31
structure dV (L M:aI):Prop where
 day:M.day=L.day
 aQ:M.aQ=L.aQ
 ah:M.ah=L.ah
 af:M.af=L.af
 aA:M.aA=L.aA
 orders:M.orders=L.orders
 aH:M.aH=L.aH
 aV:M.aV=L.aV
 ai:M.ai.map (fun a=>(a.parent,a.flag,a.last,a.aT.length))=L.ai.map fun a=>(a.parent,a.flag,a.last,a.aT.length)
 fits:(∀ a∈L.ai,∀ x∈a.aT,aJ x=true)->∀ a∈M.ai,∀ x∈a.aT,aJ x=true
theorem dV.rfl {L:aI}:dV L L:=⟨.refl _,.refl _,.refl _,.refl _,.refl _,.refl _,.refl _,.refl _,.refl _,fun h=>h⟩
theorem dV.trans {L M N:aI} (h:dV L M) (k:dV M N):dV L N :=
 ⟨k.day.trans h.day,k.aQ.trans h.aQ,k.ah.trans h.ah,k.af.trans h.af,k.aA.trans h.aA,k.orders.trans h.orders,k.aH.trans h.aH,k.aV.trans h.aV,k.ai.trans h.ai,fun x=>k.fits (h.fits x)⟩
theorem nY (L:aI) (a c x:Int) (ha:0<=a/\a<L.ai.length) (hx:aJ x=true):dV L (L.cZ a c x):=by
 have hA:=getD_at L.ai a.toNat ⟨-1,[],false,0⟩ (by omega);refine⟨.refl _,.refl _,.refl _,.refl _,.refl _,.refl _,.refl _,.refl _,qV _ _ _ ⟨-1,[],false,0⟩ _ (by omega) ?_,fun h b hb y hy=>?_⟩
 ·show (_,_,_,_)=(_,_,_,_)
  simp[aI.acc]
 rcases List.mem_or_eq_of_mem_set hb with hb|hb
 ·exact h b hb y hy
 subst hb;rcases List.mem_or_eq_of_mem_set hy with hy|hy
 ·exact h _ (List.mem_of_getElem? hA) y hy
 rw[hy];exact hx
theorem tH {a b:Int} (h:(dO a b).2=0):aJ (dO a b).1=true:=by
 unfold dO at h ⊢
 split at h
 ·rename_i h4;rw[if_pos h4];exact h4.2.2
 cases h
theorem uz {a b:Int} (h:(fG a b).2=0):aJ (fG a b).1=true:=by
 unfold fG at h ⊢
 split at h
 ·rename_i h4;rw[if_pos h4];exact h4.2.2
 cases h
theorem mM {L:aI} {c x f t:Int} (hf:0<=f/\f<L.ai.length) (ht:0<=t/\t<L.ai.length) (h:(fV L c x f t).2=0):dV L (fV L c x f t).1:=by
 unfold fV at h ⊢
 split at h
 ·rename_i h1;rw[if_pos h1]
  split at h
  ·rename_i h2;rw[if_pos h2];have k:=nY L f c _ hf (uz h1);exact k.trans (nY _ t c _ ⟨ht.1,by simpa [aI.cZ] using ht.2⟩ (tH h2))
  rename_i h2;exact absurd h h2
 rename_i h1;exact absurd h h1
theorem dV.len {L M:aI} (h:dV L M):M.ai.length=L.ai.length:=by
 have:=congrArg List.length h.ai
 simpa using this
theorem jW {f:Pos->Option (Int×Int)} {c:Pos->Int} {frm:Int}:∀ {ps:List Pos} {L:aI} (hf:0<=frm/\frm<L.ai.length) (hp:∀ p∈ps,0<=p.ak/\p.ak<L.ai.length)
 (h:(dD f c frm ps L).2=0),dV L (dD f c frm ps L).1
 | [],L,hf,hp,h=>dV.rfl
 | p::r,L,hf,hp,h=>by
   unfold dD at h ⊢
   cases hq:f p with
   | none =>
     rw[hq] at h;exact jW hf (fun q hq=>hp q (List.mem_cons_of_mem _ hq)) h
   | some x =>
     rw[hq] at h
     simp only at h ⊢
     by_cases h1:x.2=0
     ·rw[if_pos h1] at h ⊢;by_cases h2:(fV L (c p) x.1 frm p.ak).2=0
      ·rw[if_pos h2] at h ⊢;have k:=mM hf (hp p (List.mem_cons_self ..)) h2;exact k.trans (jW (by rw[k.len];exact hf) (fun q hq=>by rw[k.len];exact hp q (List.mem_cons_of_mem _ hq)) h)
      rw[if_neg h2] at h;exact absurd h h2
     rw[if_neg h1] at h;exact absurd h h1
theorem dV.good {L M:aI} (h:dV L M) (g:L.Good):M.Good:=by
 have hp:M.ai.map (·.parent)=L.ai.map (·.parent):=by
  have:=congrArg (List.map (fun x:Int×Bool×Int×Nat=>x.1)) h.ai
  simpa [List.map_map,Function.comp_def] using this
 have T:=g.things;refine⟨by rw[h.day];exact g.d0,by rw[h.day];exact g.d1,⟨by rw[h.aQ];exact T.c0,by rw[h.aQ];exact T.c1,by rw[h.ah];exact T.u1,by rw[h.af];exact T.i1,by rw[h.aQ];exact T.aQ,by rw[h.ah,h.aQ];exact T.ah,by rw[h.ah];exact T.names,by rw[h.af,h.ah];exact T.af⟩,
  ⟨by rw[hp];exact g.accounts.tree,fun v a ha=>?_⟩,by rw[h.aA,h.len,h.af];exact g.aA,by rw[h.orders,h.len,h.af];exact g.orders,by rw[h.aH,h.aV,h.len,h.af];exact g.aV,fun o ho a ha=>?_⟩
 ·obtain⟨b,hb,e⟩:=uh h.ai ha;obtain⟨o1,o2,o3,o4,o5⟩:=g.accounts.ai v b hb
  simp only[Prod.mk.injEq] at e
  obtain⟨e1,e2,e3,e4⟩:=e;exact⟨by rw[h.aQ,<-e4];exact o1,by rw[<-e3];exact o2,by rw[<-e3];exact o3,fun hv=>by rw[<-e2,<-e3];exact o4 hv,fun x hx=>h.fits (fun a ha x hx=>by
   obtain⟨n,hn⟩:=List.getElem?_of_mem ha;exact (g.accounts.ai n a hn).2.2.2.2 x hx) a (List.mem_of_getElem? ha) x hx⟩
 obtain⟨b,hb,e⟩:=uh h.ai ha
 simp only[Prod.mk.injEq] at e
 rw[h.orders] at ho;have:=g.ids o ho b hb;rw[e.2.2.1] at this;exact this
theorem Ia {L:aI} (h:L.Good) {n:Nat} (hn:n<L.af.length):(L.ins n).Ok L.ah.length:=by
 have:L.af[n]?=some (L.ins n):=getD_at L.af n _ hn;exact h.things.af _ (List.mem_of_getElem? this)
theorem Ov {L:aI} (h:L.Good) {n:Nat} (hn:n<L.af.length) :
 (zW (L.ins n) (L.und (L.ins n).under) L.day).2=0/\0<=(zW (L.ins n) (L.und (L.ins n).under) L.day).1:=by
 have hi:=Ia h hn;have hu:=h.GY (n:=(L.ins n).under) hi.1 hi.2.1;obtain⟨_,_,_,p0,p1,v0,v1⟩:=hu;obtain⟨x,e,a,b⟩:=DX hi (L.und (L.ins n).under).price (L.und (L.ins n).under).dh L.day (by omega) (by omega) v0 (by omega) h.d0 h.d1;unfold zW;rw[if_pos ⟨⟨by omega,p1⟩,v0,v1⟩,e];exact⟨rfl,a⟩
theorem Je {L:aI} (h:L.Good) {n:Nat} {x:Int} (h0:0<=x) (h1:x<=100000000000000):aI.Good { L with af:=L.af.set n { L.ins n with mark:=x } }:=by
 by_cases hn:n<L.af.length
 ·have T:=h.things;obtain⟨x1,x2,x3,x4,_,_,x5⟩:=Ia h hn;refine⟨h.d0,h.d1,⟨T.c0,T.c1,T.u1,by simpa using T.i1,T.aQ,T.ah,T.names,?_⟩,⟨h.accounts.tree,h.accounts.ai⟩,by simpa using h.aA,by simpa using h.orders,by simpa using h.aV,h.ids⟩;intro i hi;rcases List.mem_or_eq_of_mem_set hi with hi|hi
  ·exact T.af i hi
  rw[hi];exact⟨x1,x2,x3,x4,h0,h1,x5⟩
 rw[List.set_eq_of_length_le (by omega)];exact h
theorem ou {L:aI} (h:L.Good):(0:Int)<L.ai.length:=by
 have h2:2<=L.ai.length:=by simpa using h.accounts.tree.lo
 omega
structure lM (L M:aI):Prop where
 good:M.Good
 day:M.day=L.day
 aQ:M.aQ=L.aQ
 ah:M.ah=L.ah
 af:M.af.map Ins.noMark=L.af.map Ins.noMark
 aA:M.aA=L.aA
 orders:M.orders=L.orders
 aH:M.aH=L.aH
 aV:M.aV=L.aV
 ai:M.ai.map (fun a=>(a.parent,a.flag,a.last,a.aT.length))=L.ai.map fun a=>(a.parent,a.flag,a.last,a.aT.length)
theorem lM.trans {L M N:aI} (h:lM L M) (k:lM M N):lM L N :=
 ⟨k.good,k.day.trans h.day,k.aQ.trans h.aQ,k.ah.trans h.ah,k.af.trans h.af,k.aA.trans h.aA,k.orders.trans h.orders,k.aH.trans h.aH,k.aV.trans h.aV,k.ai.trans h.ai⟩
theorem qO {L:aI} (h:L.Good) {n:Nat} (hn:n<L.af.length) (he:(iG L n).2=0):lM L (iG L n).1:=by
 obtain⟨n1,n2⟩:=Ov h hn;unfold iG at he ⊢;rw[if_pos n1] at he ⊢;by_cases h1:(zW (L.ins n) (L.und (L.ins n).under) L.day).1<=100000000000000
 ·rw[if_pos h1] at he ⊢;by_cases h2:(dD (qI L n) (fun _=>L.dI n) 0 L.aA L).2=0
  ·rw[if_pos h2];have k:=jW (f:=qI L n) (c:=fun _=>L.dI n) (frm:=0) (ps:=L.aA) (L:=L) ⟨Int.le_refl _,ou h⟩ (fun p hp=>by
    obtain⟨a1,a2,_⟩:=h.aA.all p hp;omega) h2
   have g:=Je (k.good h) (n:=n) n2 h1;have ei:(dD (qI L n) (fun _=>L.dI n) 0 L.aA L).1.ins n=L.ins n:=by unfold aI.ins;rw[k.af]
   rw[ei,k.af] at g;exact⟨g,k.day,k.aQ,k.ah,qV _ _ _ ⟨0,0,0,0,0,false,0⟩ _ hn rfl,k.aA,k.orders,k.aH,k.aV,k.ai⟩
  rw[if_neg h2] at he;exact absurd he h2
 rw[if_neg h1] at he;exact absurd he (by decide)
theorem jA.filter {ps:List Pos} {a i:Nat} (h:jA ps a i) (f:Pos->Bool):jA (ps.filter f) a i :=
 ⟨Nat.le_trans (List.length_filter_le ..) h.len,fun p hp=>h.all p (List.mem_filter.1 hp).1,h.rise.sub Pos.Lt.trans List.filter_sublist⟩
theorem gI.filter {ps:List Ord} {a i:Nat} (h:gI ps a i) (f:Ord->Bool):gI (ps.filter f) a i :=
 ⟨Nat.le_trans (List.length_filter_le ..) h.len,fun p hp=>h.all p (List.mem_filter.1 hp).1,h.rise.sub Ord.Lt.trans List.filter_sublist⟩
theorem tX {L:aI} (h:L.Good) {u x:Int} (he:(gX L u x).err=0):(gX L u x).led.Good:=by
 unfold gX at he ⊢;by_cases h1:0<=u/\u<L.ah.length
 ·rw[if_pos h1] at he ⊢;by_cases h2:0<=x/\x<=1000000000000
  ·rw[if_pos h2] at he ⊢;by_cases h3:(dD (Ep L u x) (fun p=>L.dI p.instr) 0 L.aA L).2=0
   ·rw[if_pos h3];exact (jW ⟨Int.le_refl _,ou h⟩ (fun p hp=>by
     obtain⟨a1,a2,_⟩:=h.aA.all p hp;omega) h3).good h
   rw[if_neg h3] at he;exact absurd he h3
  rw[if_neg h2] at he;exact absurd (qX he) (by decide)
 rw[if_neg h1] at he;exact absurd (qX he) (by decide)
theorem xC {L:aI} (h:L.Good) {u:Int} {s:ByteArray} (he:(dY L u s).err=0):(dY L u s).led.Good:=by
 unfold dY at he ⊢;by_cases h1:0<=u/\u<L.ah.length
 ·rw[if_pos h1] at he ⊢;by_cases h2:nameB s=true/\∀ x∈L.ah,x.name≠s
  ·rw[if_pos h2];have T:=h.things;have ok:=T.ah u.toNat (L.und u) (getD_at L.ah u.toNat _ (by omega));refine⟨h.d0,h.d1,⟨T.c0,T.c1,by simpa using T.u1,T.i1,T.aQ,Hu T.ah ⟨h2.1,ok.2⟩,?_,by simpa using T.af⟩,⟨h.accounts.tree,h.accounts.ai⟩,h.aA,h.orders,h.aV,h.ids⟩;intro n k a b hk ha hb
   simp only[List.getElem?_set] at ha hb
   split at ha
   ·rw[if_neg (by omega)] at hb
    split at ha
    ·cases ha;exact fun e=>h2.2 b (List.mem_of_getElem? hb) e
    cases ha
   split at hb
   ·split at hb
    ·cases hb;exact fun e=>h2.2 a (List.mem_of_getElem? ha) e.symm
    cases hb
   exact T.names n k a b hk ha hb
  rw[if_neg h2] at he;exact absurd (qX he) (by decide)
 rw[if_neg h1] at he;exact absurd (qX he) (by decide)
theorem Ox (q:Nat):0<=(kE q false).1:=by
 unfold kE;by_cases h:4611686018427387904<q
 ·rw[if_pos h];exact Int.le_refl 0
 rw[if_neg h];exact Int.natCast_nonneg _
theorem Ic {a b c m:Int} (ha:0<=a) (hb:0<=b) (hc:0<=c):0<=(jg a b c m).1:=by
 unfold jg
 split
 ·exact Int.le_refl _
 split
 ·exact Int.le_refl _
 have e:Ci a b c=false:=by unfold Ci;rw[decide_eq_false (by omega:¬ a<0),decide_eq_false (by omega:¬ b<0),decide_eq_false (by omega:¬ c<0)];rfl
 rw[e];exact Ox _
theorem uw (num den q:Int):-1000000000<=(dw num den q).1/\(dw num den q).1<=1000000000:=by
 unfold dw
 split
 ·split
  ·assumption
  exact⟨by show (-1000000000:Int)<=0;decide,by show (0:Int)<=1000000000;decide⟩
 exact⟨by show (-1000000000:Int)<=0;decide,by show (0:Int)<=1000000000;decide⟩
theorem Gy {num den q:Int} (h0:0<=q) (h1:1<=num) (h2:1<=den):0<=(dw num den q).1:=by
 unfold dw
 split
 ·split
  ·exact Ic h0 (by omega) (by omega)
  exact Int.le_refl 0
 exact Int.le_refl 0
theorem wU {u num den:Int} {m:Nat}:∀ {l:List Ins} {qs:List Int},l.length=qs.length->gJ u num den m l qs=0->∀ i∈l,i.under=u->(qR num den i).Ok m
 | [],qs,hl,h,i,hi,e=>by cases hi
 | x::r,[],hl,h,i,hi,e=>by simp at hl
 | x::r,q::s,hl,h,i,hi,e=>by
   unfold gJ at h;rcases List.mem_cons.1 hi with hi|hi
   ·subst hi;rw[if_pos e] at h
    split at h
    ·rename_i h1;unfold yw at h1
     split at h1
     ·split at h1
      ·split at h1
       ·assumption
       exact absurd h1 (by decide)
      rename_i h2;exact absurd h1 h2
     rename_i h2;exact absurd h1 h2
    rename_i h2;exact absurd h h2
   have hl':r.length=s.length:=by simpa using hl
   split at h
   ·split at h
    ·exact wU hl' h i hi e
    rename_i h2;exact absurd h h2
   exact wU hl' h i hi e
theorem yG {u num den:Int}:∀ {l:List Ins} {qs:List Int} {x:Int},x∈fD u num den l qs->∃ q∈qs,x=q\/x=(dw num den q).1
 | [],qs,x,h=>by simp[fD] at h
 | i::r,[],x,h=>by simp[fD] at h
 | i::r,q::s,x,h=>by
   unfold fD at h;rw[List.zipWith_cons_cons] at h;rcases List.mem_cons.1 h with h|h
   ·refine⟨q,List.mem_cons_self ..,?_⟩;rw[h]
    split
    ·exact Or.inr rfl
    exact Or.inl rfl
   obtain⟨y,hy,e⟩:=yG (l:=r) (qs:=s) h;exact⟨y,List.mem_cons_of_mem _ hy,e⟩
theorem xQ {L:aI} (h:L.Good) {u num den:Int} (hu:0<=u/\u<L.ah.length) (hn:1<=num) (hd:1<=den)
 (hok:dU.Ok { L.und u with price:=(gZ num den (L.und u).price).1 } L.aQ.length) (hi:gJ u num den L.ah.length L.af L.aH=0):(L.split u num den).Good:=by
 have T:=h.things;have el:(gU u num den L.af).length=L.af.length:=by simp[gU]
 have hm:(L.ah.set u.toNat { L.und u with price:=(gZ num den (L.und u).price).1 }).map (·.name)=L.ah.map (·.name):=qV _ _ _ ⟨⟨#[]⟩,0,0,0⟩ _ (by omega) rfl;refine⟨h.d0,h.d1,⟨T.c0,T.c1,by simpa [aI.split] using T.u1,by simpa [aI.split,el] using T.i1,T.aQ,Hu T.ah hok,?_,?_⟩,⟨h.accounts.tree,h.accounts.ai⟩,
  by show jA L.aA L.ai.length (gU u num den L.af).length;rw[el];exact h.aA,by show gI L.orders L.ai.length (gU u num den L.af).length;rw[el];exact h.orders,?_,h.ids⟩
 ·intro n k a b hk ha hb;obtain⟨a',ha',ea⟩:=uh hm ha;obtain⟨b',hb',eb⟩:=uh hm hb;have:=T.names n k a' b' hk ha' hb';rw[ea,eb] at this;exact this
 ·intro i hi';have hi2:i∈gU u num den L.af:=hi';unfold gU at hi2;obtain⟨x,hx,rfl⟩:=List.mem_map.1 hi2
  show Ins.Ok _ (L.ah.set _ _).length
  rw[List.length_set]
  split
  ·rename_i e;exact wU h.aV.len.symm hi x hx e
  exact T.af x hx
 refine⟨?_,h.aV.Cb,?_,?_,h.aV.rise⟩
 ·show (fD u num den L.af L.aH).length=(gU u num den L.af).length
  rw[el];simp[fD,h.aV.len]
 ·intro x hx;obtain⟨q,hq,e⟩:=yG (show x∈fD u num den L.af L.aH from hx);obtain⟨q0,q1⟩:=h.aV.aH q hq;rcases e with e|e
  ·rw[e];exact⟨q0,q1⟩
  rw[e];exact⟨Gy q0 hn hd,(uw _ _ _).2⟩
 show ∀ x∈L.aV,2<=x.ak/\x.ak<L.ai.length/\0<=x.instr/\x.instr<(gU u num den L.af).length/\_
 rw[el];exact h.aV.all
theorem tq {L:aI} {u num den:Int} {l:List Pos} {p:Pos} (h:p∈bC L u num den l):∃ p'∈l,p.ak=p'.ak/\p.instr=p'.instr/\(p.qty=p'.qty\/p.qty=(dw num den p'.qty).1):=by
 unfold bC at h;obtain⟨x,hx,rfl⟩:=List.mem_map.1 h;refine⟨x,hx,?_⟩
 split
 ·exact⟨rfl,rfl,Or.inr rfl⟩
 exact⟨rfl,rfl,Or.inl rfl⟩
theorem qP {L:aI} {u num den:Int} {l:List Pos} (h:iI Pos.Lt l):iI Pos.Lt (bC L u num den l):=by
 intro n a b ha hb;unfold bC at ha hb;rw[List.getElem?_map] at ha hb
 cases hx:l[n]? with
 | none=>rw[hx] at ha;cases ha
 | some x =>
   cases hy:l[n+1]? with
   | none=>rw[hy] at hb;cases hb
   | some y =>
     rw[hx] at ha;rw[hy] at hb;have:=h n x y hx hy
     simp only[Option.map_some,Option.some.injEq] at ha hb
     subst ha hb;unfold Pos.Lt at *
     split <;> split <;> exact this
theorem vI {L:aI} (h:L.Good) {u num den:Int} (he:(fF L u num den).err=0):(fF L u num den).led.Good:=by
 unfold fF at he ⊢;by_cases h1:0<=u/\u<L.ah.length
 ·rw[if_pos h1] at he ⊢;by_cases h2:1<=num/\num<=1000/\1<=den/\den<=1000
  ·rw[if_pos h2] at he ⊢;by_cases h3:(gZ num den (L.und u).price).2=0
   ·rw[if_pos h3] at he ⊢;by_cases h4:dU.Ok { L.und u with price:=(gZ num den (L.und u).price).1 } L.aQ.length
    ·rw[if_pos h4] at he ⊢;by_cases h5:gJ u num den L.ah.length L.af L.aH=0
     ·rw[if_pos h5] at he ⊢;by_cases h6:(dD (mX L u num den) (fun p=>L.dI p.instr) 1 L.aA (L.split u num den)).2=0
      ·rw[if_pos h6] at he ⊢;by_cases h7:jT L u num den L.aV=0
       ·rw[if_pos h7];have g0:=xQ h h1 h2.1 h2.2.2.1 h4 h5;have k:=jW (f:=mX L u num den) (c:=fun p=>L.dI p.instr) (frm:=1) (ps:=L.aA) (L:=L.split u num den) ⟨by decide,by
         have h2:2<=L.ai.length:=by simpa using h.accounts.tree.lo
         show (1:Int)<L.ai.length
         omega⟩ (fun p hp=>by
         obtain⟨a1,a2,_⟩:=h.aA.all p hp;exact⟨by omega,a2⟩) h6
        have g:=k.good g0;have T:=g.things;have P:=g.aA;have O:=g.orders;have Q:=g.aV;rw[k.aA] at P;rw[k.orders] at O;rw[k.aH,k.aV] at Q;have D:=g.ids;rw[k.orders] at D;refine⟨g.d0,g.d1,⟨T.c0,T.c1,T.u1,T.i1,T.aQ,T.ah,T.names,T.af⟩,⟨g.accounts.tree,g.accounts.ai⟩,⟨?_,?_,?_⟩,O.filter _,⟨by rw[<-k.aH] at Q;exact Q.len,?_,by rw[<-k.aH] at Q;exact Q.aH,?_,?_⟩,?_⟩
        ·exact Nat.le_trans (List.length_filter_le ..) (by simpa [bC] using h.aA.len)
        ·intro p hp;obtain⟨m,hq⟩:=List.mem_filter.1 hp;obtain⟨x,hx,e1,e2,e3⟩:=tq m;obtain⟨a1,a2,a3,a4,a5,a6,a7⟩:=P.all x hx;have hs:=uw num den x.qty;refine⟨by rw[e1];exact a1,by rw[e1];exact a2,by rw[e2];exact a3,by rw[e2];exact a4,by simpa using hq,?_,?_⟩ <;> rcases e3 with e3|e3 <;> rw[e3] <;> omega
        ·exact (qP h.aA.rise).sub Pos.Lt.trans List.filter_sublist
        ·exact Nat.le_trans (List.length_filter_le ..) (by simpa [bC] using h.aV.Cb)
        ·intro p hp;obtain⟨m,hq⟩:=List.mem_filter.1 hp;obtain⟨x,hx,e1,e2,e3⟩:=tq m;obtain⟨a1,a2,a3,a4,a5,a6⟩:=Q.all x hx;have hs:=uw num den x.qty;have hq':0<p.qty:=by simpa using hq
         refine⟨by rw[e1];exact a1,by rw[e1];exact a2,by rw[e2];exact a3,by rw[e2];exact a4,by omega,?_⟩;rcases e3 with e3|e3 <;> rw[e3] <;> omega
        ·exact (qP h.aV.rise).sub Pos.Lt.trans List.filter_sublist
        intro o ho a ha;exact D o (List.mem_filter.1 ho).1 a ha
       rw[if_neg h7] at he;exact absurd he h7
      rw[if_neg h6] at he;exact absurd he h6
     rw[if_neg h5] at he;exact absurd he h5
    rw[if_neg h4] at he;exact absurd (qX he) (by decide)
   rw[if_neg h3] at he;exact absurd he h3
  rw[if_neg h2] at he;exact absurd (qX he) (by decide)
 rw[if_neg h1] at he;exact absurd (qX he) (by decide)
def aI.kH (L:aI) (a c:Int):Prop:=(0<=a/\a<L.ai.length)/\0<=c/\c<(L.acc a).aT.length
theorem Am {L:aI} {a c x v:Int} (ha:0<=a/\a<L.ai.length) (hv:0<=v) :
 (L.cZ a c x).acc v=if a=v then { L.acc a with aT:=(L.acc a).aT.set c.toNat x } else L.acc v:=by
 unfold aI.cZ
 show (L.ai.set a.toNat _).getD v.toNat _=_
 rw[List.getD_eq_getElem?_getD,List.getElem?_set];by_cases e:a=v
 ·subst e;rw[if_pos rfl,if_pos (by omega),if_pos rfl];rfl
 rw[if_neg (by omega),if_neg e];unfold aI.acc;rw[List.getD_eq_getElem?_getD]
theorem aI.kH.set {L:aI} {a c x b d:Int} (h:L.kH b d) (ha:0<=a/\a<L.ai.length):(L.cZ a c x).kH b d:=by
 obtain⟨h1,h2,h3⟩:=h;refine⟨⟨h1.1,by simpa [aI.cZ] using h1.2⟩,h2,?_⟩;rw[Am ha h1.1];by_cases e:a=b
 ·subst e;rw[if_pos rfl];simpa using h3
 rw[if_neg e];exact h3
theorem dV.has {L M:aI} (h:dV L M) {a c:Int} (k:L.kH a c):M.kH a c:=by
 obtain⟨k1,k2,k3⟩:=k;refine⟨by rw[h.len];exact k1,k2,?_⟩;have hA:=getD_at M.ai a.toNat ⟨-1,[],false,0⟩ (by rw[h.len];omega);obtain⟨b,hb,e⟩:=uh h.ai hA;have hB:=getD_at L.ai a.toNat ⟨-1,[],false,0⟩ (by omega);rw[hb] at hB;cases hB
 simp only[Prod.mk.injEq] at e
 show c<(M.ai.getD a.toNat _).aT.length
 rw[<-e.2.2.2];exact k3
theorem aI.Good.has {L:aI} (h:L.Good) {a c:Int} (ha:0<=a/\a<L.ai.length) (hc:0<=c/\c<L.aQ.length):L.kH a c:=by
 refine⟨ha,hc.1,?_⟩;have hA:=getD_at L.ai a.toNat ⟨-1,[],false,0⟩ (by omega);have:=(h.accounts.ai _ _ hA).1
 show c<(L.ai.getD a.toNat _).aT.length
 rw[this];exact hc.2
theorem aI.Good.nG {L:aI} (h:L.Good) {n:Int} (h0:0<=n) (h1:n<L.af.length):0<=L.dI n/\L.dI n<L.aQ.length:=by
 have hi:=h.EW h0 h1;have hu:=h.GY hi.1 hi.2.1;exact⟨hu.2.1,hu.2.2.1⟩
theorem aI.Good.two {L:aI} (h:L.Good):(1:Int)<L.ai.length:=by
 have h2:2<=L.ai.length:=by simpa using h.accounts.tree.lo
 omega
theorem aI.kH.ai {L M:aI} (e:M.ai=L.ai) {a c:Int} (h:L.kH a c):M.kH a c:=by
 unfold aI.kH aI.acc at *;rw[e];exact h
theorem lM.len {L M:aI} (h:lM L M):M.ai.length=L.ai.length:=by
 have:=congrArg List.length h.ai
 simpa using this
end Go.Bw
namespace Go.Proofs.YtcepekniflaoaaaGreatDoor
open Go.RowKit Go.Bw Go.Maps Go.Shelf Go.Bw.Fall
def oP:aI:=⟨0,[⟨1000000,0⟩],[⟨⟨#[65]⟩,0,101,0⟩],[⟨1,0,1,0,0,false,101⟩],[⟨-1,[0],false,0⟩,⟨-1,[0],false,0⟩,⟨-1,[1000],false,0⟩],[⟨2,0,5⟩],[],[0],[]⟩
def tY:aI:=⟨0,[⟨1000000,0⟩],[⟨⟨#[65]⟩,0,67,0⟩],[⟨1,0,1,0,0,false,67⟩],[⟨-1,[0],false,0⟩,⟨-1,[-36],false,0⟩,⟨-1,[1036],false,0⟩],[⟨2,0,7⟩],[],[0],[]⟩
def yh:aI:=⟨0,[⟨1000000,0⟩],[⟨⟨#[65]⟩,0,101,0⟩],[⟨1,0,1,0,0,false,101⟩],[⟨-1,[-20],false,0⟩,⟨-1,[0],false,0⟩,⟨-1,[1020],false,0⟩],[⟨2,0,5⟩],[],[0],[]⟩
theorem Fh {α:Type} {x:α} {n:Nat} {y:α} (h:[x][n]?=some y):n=0/\y=x:=by
 have h1:=(List.getElem?_eq_some_iff.1 h).1;have:n=0:=by simpa using h1
 subst this;exact⟨rfl,by simpa using h.symm⟩
theorem xI {α:Type} {lt:α->α->Prop} {l:List α} (h:l.length<=1):iI lt l:=fun i a b ha hb=>by
 have:=(List.getElem?_eq_some_iff.1 hb).1;omega
theorem rV:oP.Good:=by
 refine⟨by decide,by decide,⟨by decide,by decide,by decide,by decide,?_,?_,?_,?_⟩,⟨⟨by decide,by decide,?_⟩,?_⟩,⟨by decide,?_,xI (by decide)⟩,⟨by decide,by simp[oP],xI (by decide)⟩,⟨by decide,by decide,?_,?_,xI (by decide)⟩,by simp[oP]⟩
 ·intro n c hc;obtain⟨rfl,rfl⟩:=Fh hc;exact⟨by decide,by decide,by decide,by decide,fun _=>rfl⟩
 ·intro n c hc;obtain⟨rfl,rfl⟩:=Fh hc;exact⟨by decide,by decide,by decide,by decide,by decide,by decide,by decide⟩
 ·intro n k u v hk hu;obtain⟨rfl,rfl⟩:=Fh hu;omega
 ·intro i hi
  simp only[oP,List.mem_cons,List.not_mem_nil,or_false] at hi
  subst hi;exact⟨by decide,by decide,by decide,by decide,by decide,by decide,Or.inl (by decide)⟩
 ·intro v p hp
  left
  have:=List.mem_of_getElem? hp
  simpa [oP] using this
 ·intro v a ha
  match v,ha with
  | 0,ha=>cases ha;exact⟨rfl,by decide,by decide,fun _=>⟨rfl,rfl⟩,by decide⟩
  | 1,ha=>cases ha;exact⟨rfl,by decide,by decide,fun _=>⟨rfl,rfl⟩,by decide⟩
  | 2,ha=>cases ha;exact⟨rfl,by decide,by decide,fun h=>by omega,by decide⟩
  | v+3,ha=>simp[oP] at ha
 ·intro p hp
  simp only[oP,List.mem_cons,List.not_mem_nil,or_false] at hp
  subst hp;exact⟨by decide,by decide,by decide,by decide,by decide,by decide,by decide⟩
 ·intro q hq
  simp only[oP,List.mem_cons,List.not_mem_nil,or_false] at hq
  subst hq;decide
 intro x hx;simp[oP] at hx
theorem rU:gX oP 0 4=⟨yh,0,0⟩:=by
 unfold gX;rw[if_pos (by decide),if_pos (by decide),if_pos (by decide +kernel)];have:(dD (Ep oP 0 4) (fun p=>oP.dI p.instr) 0 oP.aA oP).1=yh:=by kernel_rfl
 rw[this]
theorem nI:fF oP 0 3 2=⟨tY,0,0⟩:=by
 unfold fF;rw[if_pos (by decide),if_pos (by decide),if_pos (by decide +kernel),if_pos ⟨by decide +kernel,by decide,by decide,by decide +kernel,by decide +kernel,by decide,by decide⟩,if_pos ?_,if_pos (by decide +kernel),if_pos (by decide +kernel)]
 ·have:(dD (mX oP 0 3 2) (fun p=>oP.dI p.instr) 1 oP.aA (oP.split 0 3 2)).1={ tY with aA:=oP.aA }:=by kernel_rfl
  rw[this];have e1:(bC oP 0 3 2 oP.aA).filter (fun p=>decide (p.qty≠0))=tY.aA:=by kernel_rfl
  have e2:(bC oP 0 3 2 oP.aV).filter (fun p=>decide (0<p.qty))=tY.aV:=by kernel_rfl
  rw[e1,e2];rfl
 show gJ 0 3 2 1 [⟨1,0,1,0,0,false,101⟩] [0]=0
 unfold gJ;have e:yw 3 2 1 ⟨1,0,1,0,0,false,101⟩ 0=0:=by
  unfold yw;rw[if_pos (by decide +kernel),if_pos (by decide +kernel),if_pos ⟨by decide,by decide,by decide,by decide,by decide +kernel,by decide +kernel,Or.inl ⟨by decide,by decide +kernel,by decide,by decide⟩⟩];decide +kernel
 rw[if_pos rfl,if_pos e];rfl
theorem Es:jP tY=some tY:=by kernel_rfl
theorem Et:jP yh=some yh:=by kernel_rfl
theorem I7:tY.Good:=by
 have:=vI rV (u:=0) (num:=3) (den:=2) (by rw[nI]);rw[nI] at this;exact this
theorem I8:yh.Good:=by
 have:=tX rV (u:=0) (x:=4) (by rw[rU]);rw[rU] at this;exact this
theorem Eu:jh oP (fF oP 0 3 2)=(tY,0,0):=by
 have hf:=mJ I7 Es;rw[rM rV (by rw[nI]) (by rw[nI,hf]),nI,hf]
theorem KJ:jh oP (gX oP 0 4)=(yh,0,0):=by
 have hf:=mJ I8 Et;rw[rM rV (by rw[rU]) (by rw[rU,hf]),rU,hf]
end Go.Proofs.YtcepekniflaoaaaGreatDoor
namespace Go.Proofs.YtcepekniflaoaaaGreatDoor
open Go.RowKit Go.Bw Go.Maps Go.Shelf
theorem Dh {i:Ins} {q v:Int} (hq:aJ q=true):jX [q,i.mult,v] 1=dQ i q v:=by
 have h1:eX 1 q=(q,0):=by rw[lD,Int.one_mul,if_pos ⟨rfl,hq,hq⟩]
 unfold jX;rw[h1]
 simp only[ne_eq,not_true_eq_false,if_false]
 unfold jX dQ;by_cases h2:(eX q i.mult).2=0
 ·rw[if_neg (fun h=>h h2),if_pos h2];unfold jX;by_cases h3:(eX (eX q i.mult).1 v).2=0
  ·rw[if_neg (fun h=>h h3)];unfold jX;exact Prod.ext rfl h3.symm
  rw[if_pos h3];rcases jU (eX q i.mult).1 v with e|e
  ·exact absurd e.1 h3
  rw[e]
 rw[if_pos h2,if_neg h2]
end Go.Proofs.YtcepekniflaoaaaGreatDoor
