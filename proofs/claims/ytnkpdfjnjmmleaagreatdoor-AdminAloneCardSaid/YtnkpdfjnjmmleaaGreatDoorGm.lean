/- Joined: AdmP, AdmQ, AdmR, AdmS, AdmT, AdmU, AdmV, AdmW, LocP, LocD. -/
import Derived.Test.YtnkpdfjnjmmleaaGreatDoorGb
set_option linter.unusedVariables false
set_option linter.unusedSimpArgs false
namespace Go.Bw
open Classical
structure Adm where
 led:Led
 num:Int
 err:Int
def Adm.no (e:Int):Adm:=⟨⟨0,[],[],[],[],[],[],[],[]⟩,0,e⟩
noncomputable def priceS (L:Led) (u p v:Int):Adm :=
 if 0 <= u /\ u<L.unders.length then
  if Und.Ok { L.und u with price:=p,vol:=v } L.curs.length then ⟨{ L with unders:=L.unders.set u.toNat { L.und u with price:=p,vol:=v } },u,0⟩ else .no 37
 else .no 31
noncomputable def rateS (L:Led) (c r h:Int):Adm :=
 if 0 <= c /\ c <= L.curs.length /\ Cur.Ok ⟨r,h⟩ c.toNat then
  if c<L.curs.length then ⟨{ L with curs:=L.curs.set c.toNat ⟨r,h⟩ },c,0⟩
  else if c<4 then ⟨{ L with curs:=L.curs++[⟨r,h⟩],accts:=L.accts.map fun a=>{ a with cash:=a.cash++[0] } },c,0⟩
  else .no 40
 else .no 30
def Led.acc (l:Led) (n:Int):Acc:=l.accts.getD n.toNat ⟨-1,[],false,0⟩
def cashA (L:Led) (a c x:Int):Int×Int:=addA ((L.acc a).cash.getD c.toNat 0) x
noncomputable def cashS (L:Led) (a c x:Int):Adm :=
 if 0 <= a /\ a<L.accts.length then
  if 0 <= c /\ c<L.curs.length then
   if (cashA L a c x).2=0 then ⟨{ L with accts:=L.accts.set a.toNat { L.acc a with cash:=(L.acc a).cash.set c.toNat (cashA L a c x).1 } },a,0⟩ else .no (cashA L a c x).2
  else .no 30
 else .no 33
noncomputable def chkA (ps:List Int):Int:=if ps.length<2 then 33 else if 16<ps.length then 40 else if TreeOk ps then 0 else 33
noncomputable def accountS (L:Led) (p:Int):Adm :=
 if chkA (L.parents++[p])=0 then ⟨{ L with accts:=L.accts++[⟨p,List.replicate L.curs.length 0,false,0⟩] },L.accts.length,0⟩ else .no (chkA (L.parents++[p]))
noncomputable def underS (L:Led) (u:Und):Adm :=
 if L.unders.length<6 then
  if nameB u.name=true /\ ∀ x∈L.unders,x.name≠u.name then
   if u.Ok L.curs.length then ⟨{ L with unders:=L.unders++[u] },L.unders.length,0⟩ else .no 31
  else .no 42
 else .no 40
def Ins.noMark (i:Ins):Ins:={ i with mark:=0 }
def nowA (i:Ins) (u:Und) (day:Int):Int×Int :=
 if (0 <= u.price /\ u.price <= 1000000000000) /\ (0 <= u.vol /\ u.vol <= 50000) then unitA i u.price u.vol day else (0,1)
def markA (L:Led) (i:Ins):Int×Int:=nowA i.noMark (L.und i.under) L.day
noncomputable def instrS (L:Led) (i:Ins):Adm :=
 if L.instrs.length<12 then
  if i.noMark.Ok L.unders.length then
   if i.expiry=0 \/ L.day <= i.expiry then
    if (markA L i).2=0 then
     if (markA L i).1 <= 100000000000000 then ⟨{ L with instrs:=L.instrs++[{ i with mark:=(markA L i).1 }],avail:=L.avail++[0] },L.instrs.length,0⟩ else .no 4
    else .no (markA L i).2
   else .no 41
  else .no 32
 else .no 40
def supplyA (avail:List Int) (i q:Int):List Int×Int :=
 if 0 <= i /\ i<avail.length then
  if (-1000000000 <= q /\ q <= 1000000000) /\ 0 <= avail.getD i.toNat 0+q /\ avail.getD i.toNat 0+q <= 1000000000 then (avail.set i.toNat (avail.getD i.toNat 0+q),0) else ([],36)
 else ([],32)
noncomputable def supplyS (L:Led) (i q:Int):Adm :=
 if (supplyA L.avail i q).2=0 then ⟨{ L with avail:=(supplyA L.avail i q).1 },(supplyA L.avail i q).1.getD i.toNat 0,0⟩ else .no (supplyA L.avail i q).2
def heldL:List Pos -> Int -> Int -> Int
 | [],_,_=>0
 | x::r,a,i=>if x.acct=a /\ x.instr=i then x.qty else heldL r a i
def putLoc (a i q:Int):List Pos -> List Pos
 | []=>if q=0 then [] else [⟨a,i,q⟩]
 | x::r=>if x.acct=a /\ x.instr=i then (if q=0 then r else ⟨a,i,q⟩::r)
   else if a<x.acct \/ a=x.acct /\ i<x.instr then (if q=0 then x::r else ⟨a,i,q⟩::x::r)
   else x::putLoc a i q r
def hasLoc (locs:List Pos) (a i:Int):Bool:=locs.any fun x=>decide (x.acct=a /\ x.instr=i)
def reserveA (avail:List Int) (locs:List Pos) (a i q:Int):List Int×List Pos×Int :=
 if 0 <= i /\ i<avail.length then
  if (-1000000000 <= q /\ q <= 1000000000) /\ 0 <= heldL locs a i+q /\ heldL locs a i+q <= 1000000000 then
   if q <= avail.getD i.toNat 0 then
    if avail.getD i.toNat 0 - q <= 1000000000 then
     if hasLoc locs a i=false /\ heldL locs a i+q≠0 /\ 32 <= locs.length then ([],[],40)
     else (avail.set i.toNat (avail.getD i.toNat 0 - q),putLoc a i (heldL locs a i+q) locs,0)
    else ([],[],36)
   else ([],[],39)
  else ([],[],36)
 else ([],[],32)
noncomputable def reserveS (L:Led) (a i q:Int):Adm :=
 if 2 <= a /\ a<L.accts.length then
  if (reserveA L.avail L.locs a i q).2.2=0 then ⟨{ L with avail:=(reserveA L.avail L.locs a i q).1,locs:=(reserveA L.avail L.locs a i q).2.1 },heldL (reserveA L.avail L.locs a i q).2.1 a i,0⟩
  else .no (reserveA L.avail L.locs a i q).2.2
 else .no 33
theorem no_err {e:Int} (h:(Adm.no e).err=0):e=0:=h
theorem getD_at {α:Type} (l:List α) (n:Nat) (d:α) (h:n<l.length):l[n]?=some (l.getD n d):=by
 rw[List.getD_eq_getElem?_getD,List.getElem?_eq_getElem h];rfl
theorem all_set {α:Type} {l:List α} {k:Nat} {x:α} {P:Nat -> α -> Prop} (h:∀ n u,l[n]?=some u -> P n u) (hx:P k x):∀ n u,(l.set k x)[n]?=some u -> P n u:=by
 intro n u hn
 rw[List.getElem?_set] at hn
 by_cases e:k=n
 ·subst e
  rw[if_pos rfl] at hn
  by_cases e2:k<l.length
  ·rw[if_pos e2] at hn;cases hn;exact hx
  ·rw[if_neg e2] at hn;cases hn
 ·rw[if_neg e] at hn;exact h n u hn
theorem all_snoc {α:Type} {l:List α} {x:α} {P:Nat -> α -> Prop} (h:∀ n u,l[n]?=some u -> P n u) (hx:P l.length x):∀ n u,(l++[x])[n]?=some u -> P n u:=by
 intro n u hn
 rcases Nat.lt_trichotomy n l.length with e|e|e
 ·rw[List.getElem?_append_left e] at hn;exact h n u hn
 ·subst e;simp at hn;subst hn;exact hx
 ·rw[List.getElem?_eq_none (by simp;omega)] at hn;cases hn
theorem map_at {α β:Type} {f:α -> β} {l l':List α} (h:l.map f=l'.map f) {n:Nat} {u:α} (hn:l[n]?=some u):∃ u',l'[n]?=some u' /\ f u'=f u:=by
 have e:(l.map f)[n]?=some (f u):=by rw[List.getElem?_map,hn];rfl
 rw[h,List.getElem?_map] at e
 cases hl:l'[n]? with
 | none=>rw[hl] at e;cases e
 | some u'=>rw[hl] at e;exact⟨u',rfl,by simpa using e⟩
theorem map_set_eq {α β:Type} (f:α -> β) (l:List α) (k:Nat) (d x:α) (hk:k<l.length) (h:f x=f (l.getD k d)):(l.set k x).map f=l.map f:=by
 apply List.ext_getElem?
 intro n
 rw[List.getElem?_map,List.getElem?_map,List.getElem?_set]
 by_cases e:k=n
 ·subst e;rw[if_pos rfl,if_pos hk,getD_at l k d hk];simp[h]
 ·rw[if_neg e]
theorem priceS_good {L:Led} (h:L.Good) {u p v:Int} (he:(priceS L u p v).err=0):(priceS L u p v).led.Good:=by
 unfold priceS at he ⊢
 by_cases h1:0 <= u /\ u<L.unders.length
 ·rw[if_pos h1] at he ⊢
  by_cases h2:Und.Ok { L.und u with price:=p,vol:=v } L.curs.length
  ·rw[if_pos h2]
   have hm:(L.unders.set u.toNat { L.und u with price:=p,vol:=v }).map (·.name)=L.unders.map (·.name):=map_set_eq _ _ _ _ _ (by omega) rfl
   have T:=h.things
   refine⟨h.d0,h.d1,⟨T.c0,T.c1,by simpa using T.u1,T.i1,T.curs,all_set T.unders h2,?_,by simpa using T.instrs⟩,⟨h.accounts.tree,h.accounts.accts⟩,h.poss,h.orders,h.locs,h.ids⟩
   intro n k a b hk ha hb
   obtain⟨a',ha',ea⟩:=map_at hm ha
   obtain⟨b',hb',eb⟩:=map_at hm hb
   have:=T.names n k a' b' hk ha' hb'
   rw[ea,eb] at this
   exact this
  ·rw[if_neg h2] at he;exact absurd (no_err he) (by decide)
 ·rw[if_neg h1] at he;exact absurd (no_err he) (by decide)
theorem cashS_good {L:Led} (h:L.Good) {a c x:Int} (he:(cashS L a c x).err=0):(cashS L a c x).led.Good:=by
 unfold cashS at he ⊢
 by_cases h1:0 <= a /\ a<L.accts.length
 ·rw[if_pos h1] at he ⊢
  by_cases h2:0 <= c /\ c<L.curs.length
  ·rw[if_pos h2] at he ⊢
   by_cases h3:(cashA L a c x).2=0
   ·rw[if_pos h3]
    have hf:fitsA (cashA L a c x).1=true:=by
     unfold cashA addA at h3 ⊢
     split at h3
     ·rename_i h4;rw[if_pos h4];exact h4.2.2
     ·cases h3
    have ha:=getD_at L.accts a.toNat ⟨-1,[],false,0⟩ (by omega)
    have ok:=h.accounts.accts _ _ ha
    have hp:(L.accts.set a.toNat { L.acc a with cash:=(L.acc a).cash.set c.toNat (cashA L a c x).1 }).map (·.parent)=L.accts.map (·.parent):=map_set_eq _ _ _ _ _ (by omega) rfl
    have hl:(L.accts.set a.toNat { L.acc a with cash:=(L.acc a).cash.set c.toNat (cashA L a c x).1 }).map (·.last)=L.accts.map (·.last):=map_set_eq _ _ _ _ _ (by omega) rfl
    refine⟨h.d0,h.d1,⟨h.things.c0,h.things.c1,h.things.u1,h.things.i1,h.things.curs,h.things.unders,h.things.names,h.things.instrs⟩,⟨by rw[hp];exact h.accounts.tree,all_set h.accounts.accts ?_⟩,by simpa using h.poss,by simpa using h.orders,by simpa using h.locs,?_⟩
    ·obtain⟨o1,o2,o3,o4,o5⟩:=ok
     refine⟨by show ((L.acc a).cash.set _ _).length=_;rw[List.length_set];exact o1,o2,o3,o4,?_⟩
     intro y hy
     rcases List.mem_or_eq_of_mem_set hy with hy|hy
     ·exact o5 y hy
     ·rw[hy];exact hf
    ·intro o ho b hb
     obtain⟨b',hb',eb⟩:=map_at hl hb
     have:=h.ids o ho b' hb'
     rw[eb] at this
     exact this
   ·rw[if_neg h3] at he;exact absurd he h3
  ·rw[if_neg h2] at he;exact absurd (no_err he) (by decide)
 ·rw[if_neg h1] at he;exact absurd (no_err he) (by decide)
theorem PossOk.more {ps:List Pos} {a i a' i':Nat} (h:PossOk ps a i) (ha:a <= a') (hi:i <= i'):PossOk ps a' i' :=
 ⟨h.len,fun p hp=>by obtain⟨x1,x2,x3,x4,x5⟩:=h.all p hp;exact⟨x1,by omega,x3,by omega,x5⟩,h.rise⟩
theorem OrdersOk.more {ps:List Ord} {a i a' i':Nat} (h:OrdersOk ps a i) (ha:a <= a') (hi:i <= i'):OrdersOk ps a' i' :=
 ⟨h.len,fun p hp=>by obtain⟨x1,x2,x3,x4,x5,x6,x7⟩:=h.all p hp;exact⟨x1,by omega,x3,x4,x5,by omega,x7⟩,h.rise⟩
theorem chkA_tree {ps:List Int} (h:chkA ps=0):TreeOk ps:=by
 unfold chkA at h
 split at h
 ·cases h
 ·split at h
  ·cases h
  ·split at h
   ·assumption
   ·cases h
theorem accountS_good {L:Led} (h:L.Good) {p:Int} (he:(accountS L p).err=0):(accountS L p).led.Good:=by
 unfold accountS at he ⊢
 by_cases h1:chkA (L.parents++[p])=0
 ·rw[if_pos h1]
  have h2:2 <= L.accts.length:=by simpa using h.accounts.tree.lo
  refine⟨h.d0,h.d1,⟨h.things.c0,h.things.c1,h.things.u1,h.things.i1,h.things.curs,h.things.unders,h.things.names,h.things.instrs⟩,⟨by simpa [Led.parents] using chkA_tree h1,all_snoc h.accounts.accts ?_⟩,h.poss.more (by simp) (Nat.le_refl _),h.orders.more (by simp) (Nat.le_refl _),?_,?_⟩
  ·refine⟨by simp,Int.le_refl _,by show (0:Int) <= 1099511627776;decide,fun hv=>by omega,fun x hx=>?_⟩
   rw[(List.mem_replicate.1 hx).2];decide
  ·exact⟨h.locs.len,h.locs.locn,h.locs.avail,fun x hx=>by obtain⟨x1,x2,x3⟩:=h.locs.all x hx;exact⟨x1,by simp;omega,x3⟩,h.locs.rise⟩
  ·intro o ho a ha
   have:=(h.orders.all o ho).2.1
   have:=(h.orders.all o ho).1
   rw[List.getElem?_append_left (by omega)] at ha
   exact h.ids o ho a ha
 ·rw[if_neg h1] at he;exact absurd he h1
theorem underS_good {L:Led} (h:L.Good) {u:Und} (he:(underS L u).err=0):(underS L u).led.Good:=by
 unfold underS at he ⊢
 by_cases h1:L.unders.length<6
 ·rw[if_pos h1] at he ⊢
  by_cases h2:nameB u.name=true /\ ∀ x∈L.unders,x.name≠u.name
  ·rw[if_pos h2] at he ⊢
   by_cases h3:u.Ok L.curs.length
   ·rw[if_pos h3]
    have T:=h.things
    refine⟨h.d0,h.d1,⟨T.c0,T.c1,by simp;omega,T.i1,T.curs,all_snoc T.unders h3,?_,?_⟩,⟨h.accounts.tree,h.accounts.accts⟩,h.poss,h.orders,h.locs,h.ids⟩
    ·intro n k a b hk ha hb
     have hn:n<L.unders.length+1:=by have:=(List.getElem?_eq_some_iff.1 ha).1;simpa using this
     rw[List.getElem?_append_left (by omega)] at hb
     rcases Nat.lt_or_ge n L.unders.length with e|e
     ·rw[List.getElem?_append_left e] at ha
      exact T.names n k a b hk ha hb
     ·have:n=L.unders.length:=by omega
      subst this
      simp at ha
      subst ha
      exact h2.2 b (List.mem_of_getElem? hb)
    ·intro i hi
     obtain⟨x1,x2,x3⟩:=T.instrs i hi
     exact⟨x1,by simp;omega,x3⟩
   ·rw[if_neg h3] at he;exact absurd (no_err he) (by decide)
  ·rw[if_neg h2] at he;exact absurd (no_err he) (by decide)
 ·rw[if_neg h1] at he;exact absurd (no_err he) (by decide)
theorem supplyA_ok {avail:List Int} {i q:Int} (h:(supplyA avail i q).2=0):0 <= i /\ i<avail.length /\ 0 <= avail.getD i.toNat 0+q /\ avail.getD i.toNat 0+q <= 1000000000 /\ (supplyA avail i q).1=avail.set i.toNat (avail.getD i.toNat 0+q):=by
 unfold supplyA at h ⊢
 split at h
 ·rename_i h1
  split at h
  ·rename_i h2
   rw[if_pos h1,if_pos h2]
   exact⟨h1.1,h1.2,h2.2.1,h2.2.2,rfl⟩
  ·cases h
 ·cases h
theorem supplyS_good {L:Led} (h:L.Good) {i q:Int} (he:(supplyS L i q).err=0):(supplyS L i q).led.Good:=by
 unfold supplyS at he ⊢
 by_cases h1:(supplyA L.avail i q).2=0
 ·rw[if_pos h1]
  obtain⟨a1,a2,a3,a4,e⟩:=supplyA_ok h1
  rw[e]
  refine⟨h.d0,h.d1,⟨h.things.c0,h.things.c1,h.things.u1,h.things.i1,h.things.curs,h.things.unders,h.things.names,h.things.instrs⟩,⟨h.accounts.tree,h.accounts.accts⟩,h.poss,h.orders,⟨by simpa using h.locs.len,h.locs.locn,?_,h.locs.all,h.locs.rise⟩,h.ids⟩
  intro y hy
  rcases List.mem_or_eq_of_mem_set hy with hy|hy
  ·exact h.locs.avail y hy
  ·rw[hy];exact⟨a3,a4⟩
 ·rw[if_neg h1] at he;exact absurd he h1
theorem rateS_good {L:Led} (h:L.Good) {c r k:Int} (he:(rateS L c r k).err=0):(rateS L c r k).led.Good:=by
 unfold rateS at he ⊢
 by_cases h1:0 <= c /\ c <= L.curs.length /\ Cur.Ok ⟨r,k⟩ c.toNat
 ·rw[if_pos h1] at he ⊢
  have T:=h.things
  have c0:=T.c0
  by_cases h2:c<L.curs.length
  ·rw[if_pos h2]
   refine⟨h.d0,h.d1,⟨by simpa using T.c0,by simpa using T.c1,T.u1,T.i1,all_set T.curs h1.2.2,by simpa using T.unders,T.names,T.instrs⟩,⟨h.accounts.tree,by simpa using h.accounts.accts⟩,h.poss,h.orders,h.locs,h.ids⟩
  ·rw[if_neg h2] at he ⊢
   by_cases h3:c<4
   ·rw[if_pos h3]
    have hc:c.toNat=L.curs.length:=by omega
    have hp:(L.accts.map fun a=>{ a with cash:=a.cash++[0] }).map (·.parent)=L.accts.map (·.parent):=by rw[List.map_map];rfl
    refine⟨h.d0,h.d1,⟨by simp,by simp;omega,T.u1,T.i1,all_snoc T.curs (hc▸h1.2.2),?_,T.names,T.instrs⟩,⟨by rw[hp];exact h.accounts.tree,?_⟩,by simpa using h.poss,by simpa using h.orders,by simpa using h.locs,?_⟩
    ·intro n u hu
     obtain⟨x1,x2,x3,x4⟩:=T.unders n u hu
     exact⟨x1,x2,by simp;omega,x4⟩
    ·intro v a ha
     simp only[List.getElem?_map] at ha
     cases hb:L.accts[v]? with
     | none=>rw[hb] at ha;cases ha
     | some b =>
       rw[hb] at ha
       simp at ha
       subst ha
       obtain⟨o1,o2,o3,o4,o5⟩:=h.accounts.accts v b hb
       refine⟨by simp[o1],o2,o3,o4,?_⟩
       intro x hx
       rcases List.mem_append.1 hx with hx|hx
       ·exact o5 x hx
       ·rw[List.mem_singleton.1 hx];decide
    ·intro o ho a ha
     simp only[List.getElem?_map] at ha
     cases hb:L.accts[o.acct.toNat]? with
     | none=>rw[hb] at ha;cases ha
     | some b =>
       rw[hb] at ha
       simp at ha
       subst ha
       exact h.ids o ho b hb
   ·rw[if_neg h3] at he;exact absurd (no_err he) (by decide)
 ·rw[if_neg h1] at he;exact absurd (no_err he) (by decide)
theorem markA_ok {L:Led} (h:L.Good) {i:Ins} (hi:i.noMark.Ok L.unders.length):(markA L i).2=0 /\ 0 <= (markA L i).1 /\ (markA L i).1 <= 2000000000000000:=by
 have hu:=h.und_ok (n:=i.under) hi.1 hi.2.1
 obtain⟨_,_,_,p0,p1,v0,v1⟩:=hu
 obtain⟨x,e,a,b⟩:=unitA_ok hi (L.und i.under).price (L.und i.under).vol L.day (by omega) (by omega) v0 (by omega) h.d0 h.d1
 unfold markA nowA
 rw[if_pos ⟨⟨by omega,p1⟩,v0,v1⟩,e]
 exact⟨rfl,a,b⟩
theorem instrS_good {L:Led} (h:L.Good) {i:Ins} (he:(instrS L i).err=0):(instrS L i).led.Good:=by
 unfold instrS at he ⊢
 by_cases h1:L.instrs.length<12
 ·rw[if_pos h1] at he ⊢
  by_cases h2:i.noMark.Ok L.unders.length
  ·rw[if_pos h2] at he ⊢
   by_cases h3:i.expiry=0 \/ L.day <= i.expiry
   ·rw[if_pos h3] at he ⊢
    obtain⟨m1,m2,m3⟩:=markA_ok h h2
    rw[if_pos m1] at he ⊢
    by_cases h4:(markA L i).1 <= 100000000000000
    ·rw[if_pos h4]
     have T:=h.things
     refine⟨h.d0,h.d1,⟨T.c0,T.c1,T.u1,by simp;omega,T.curs,T.unders,T.names,?_⟩,⟨h.accounts.tree,h.accounts.accts⟩,h.poss.more (Nat.le_refl _) (by simp),h.orders.more (Nat.le_refl _) (by simp),⟨by simp[h.locs.len],h.locs.locn,?_,?_,h.locs.rise⟩,h.ids⟩
     ·intro x hx
      rcases List.mem_append.1 hx with hx|hx
      ·exact T.instrs x hx
      ·rw[List.mem_singleton.1 hx]
       obtain⟨x1,x2,x3,x4,_,_,x5⟩:=h2
       exact⟨x1,x2,x3,x4,m2,h4,x5⟩
     ·intro q hq
      rcases List.mem_append.1 hq with hq|hq
      ·exact h.locs.avail q hq
      ·rw[List.mem_singleton.1 hq];decide
     ·intro x hx
      obtain⟨x1,x2,x3,x4,x5⟩:=h.locs.all x hx
      exact⟨x1,x2,x3,by simp;omega,x5⟩
    ·rw[if_neg h4] at he;exact absurd (no_err he) (by decide)
   ·rw[if_neg h3] at he;exact absurd (no_err he) (by decide)
  ·rw[if_neg h2] at he;exact absurd (no_err he) (by decide)
 ·rw[if_neg h1] at he;exact absurd (no_err he) (by decide)
theorem putLoc_mem {a i q:Int}:∀ {l:List Pos} {y:Pos},y∈putLoc a i q l -> y∈l \/ (q≠0 /\ y=⟨a,i,q⟩)
 | [],y,h=>by
   unfold putLoc at h
   by_cases hq:q=0
   ·rw[if_pos hq] at h;exact absurd h (by simp)
   ·rw[if_neg hq] at h;exact Or.inr ⟨hq,by simpa using h⟩
 | x::r,y,h=>by
   unfold putLoc at h
   by_cases h1:x.acct=a /\ x.instr=i
   ·rw[if_pos h1] at h
    by_cases hq:q=0
    ·rw[if_pos hq] at h;exact Or.inl (List.mem_cons_of_mem _ h)
    ·rw[if_neg hq] at h
     rcases List.mem_cons.1 h with h|h
     ·exact Or.inr ⟨hq,h⟩
     ·exact Or.inl (List.mem_cons_of_mem _ h)
   ·rw[if_neg h1] at h
    by_cases h2:a<x.acct \/ a=x.acct /\ i<x.instr
    ·rw[if_pos h2] at h
     by_cases hq:q=0
     ·rw[if_pos hq] at h;exact Or.inl h
     ·rw[if_neg hq] at h
      rcases List.mem_cons.1 h with h|h
      ·exact Or.inr ⟨hq,h⟩
      ·exact Or.inl h
    ·rw[if_neg h2] at h
     rcases List.mem_cons.1 h with h|h
     ·exact Or.inl (by rw[h];exact List.mem_cons_self ..)
     ·rcases putLoc_mem h with h|h
      ·exact Or.inl (List.mem_cons_of_mem _ h)
      ·exact Or.inr h
theorem putLoc_pair {a i q:Int}:∀ {l:List Pos},l.Pairwise Pos.Lt -> (putLoc a i q l).Pairwise Pos.Lt
 | [],_=>by
   unfold putLoc
   split
   ·exact List.Pairwise.nil
   ·simp
 | x::r,h=>by
   obtain⟨hx,hr⟩:=List.pairwise_cons.1 h
   unfold putLoc
   by_cases h1:x.acct=a /\ x.instr=i
   ·rw[if_pos h1]
    split
    ·exact hr
    ·refine List.pairwise_cons.2 ⟨fun y hy=>?_,hr⟩
     have:=hx y hy
     unfold Pos.Lt at this ⊢
     simp only
     omega
   ·rw[if_neg h1]
    by_cases h2:a<x.acct \/ a=x.acct /\ i<x.instr
    ·rw[if_pos h2]
     split
     ·exact h
     ·have h0:Pos.Lt ⟨a,i,q⟩ x:=h2
      refine List.pairwise_cons.2 ⟨fun y hy=>?_,h⟩
      rcases List.mem_cons.1 hy with hy|hy
      ·rw[hy];exact h0
      ·exact Pos.Lt.trans _ _ _ h0 (hx y hy)
    ·rw[if_neg h2]
     refine List.pairwise_cons.2 ⟨fun y hy=>?_,putLoc_pair hr⟩
     rcases putLoc_mem hy with hy|⟨_,hy⟩
     ·exact hx y hy
     ·rw[hy];unfold Pos.Lt;simp only;omega
theorem putLoc_len {a i q:Int}:∀ (l:List Pos),(putLoc a i q l).length <= l.length+1 /\ ((q=0 \/ (hasLoc l a i=true /\ l.Pairwise Pos.Lt)) -> (putLoc a i q l).length <= l.length)
 | []=>by
   unfold putLoc
   refine⟨by split <;> simp,?_⟩
   rintro (h|h)
   ·rw[if_pos h];exact Nat.le_refl _
   ·simp[hasLoc] at h
 | x::r=>by
   have ih:=putLoc_len (a:=a) (i:=i) (q:=q) r
   unfold putLoc
   by_cases h1:x.acct=a /\ x.instr=i
   ·rw[if_pos h1]
    refine⟨by split <;> simp <;> omega,fun _=>by split <;> simp⟩
   ·rw[if_neg h1]
    by_cases h2:a<x.acct \/ a=x.acct /\ i<x.instr
    ·rw[if_pos h2]
     refine⟨by split <;> simp,?_⟩
     rintro (h|⟨h,hp⟩)
     ·rw[if_pos h];exact Nat.le_refl _
     ·exfalso
      unfold hasLoc at h
      obtain⟨y,hy,e⟩:=List.any_eq_true.1 h
      have e:=of_decide_eq_true e
      rcases List.mem_cons.1 hy with hy|hy
      ·rw[hy] at e;exact h1 e
      ·have:=(List.pairwise_cons.1 hp).1 y hy
       unfold Pos.Lt at this
       omega
    ·rw[if_neg h2]
     refine⟨by simp;omega,?_⟩
     intro h
     have:(putLoc a i q r).length <= r.length:=by
      apply ih.2
      rcases h with h|⟨h,hp⟩
      ·exact Or.inl h
      ·refine Or.inr ⟨?_,(List.pairwise_cons.1 hp).2⟩
       unfold hasLoc at h ⊢
       rw[List.any_cons,decide_eq_false h1,Bool.false_or] at h
       exact h
     simpa using this
theorem reserveA_ok {avail:List Int} {locs:List Pos} {a i q:Int} (h:(reserveA avail locs a i q).2.2=0) :
 (0 <= i /\ i<avail.length) /\ (0 <= heldL locs a i+q /\ heldL locs a i+q <= 1000000000) /\ (0 <= avail.getD i.toNat 0 - q /\ avail.getD i.toNat 0 - q <= 1000000000) /\
 ¬ (hasLoc locs a i=false /\ heldL locs a i+q≠0 /\ 32 <= locs.length) /\ reserveA avail locs a i q=(avail.set i.toNat (avail.getD i.toNat 0 - q),putLoc a i (heldL locs a i+q) locs,0):=by
 unfold reserveA at h ⊢
 by_cases h1:0 <= i /\ i<avail.length
 ·rw[if_pos h1] at h ⊢
  by_cases h2:(-1000000000 <= q /\ q <= 1000000000) /\ 0 <= heldL locs a i+q /\ heldL locs a i+q <= 1000000000
  ·rw[if_pos h2] at h ⊢
   by_cases h3:q <= avail.getD i.toNat 0
   ·rw[if_pos h3] at h ⊢
    by_cases h4:avail.getD i.toNat 0 - q <= 1000000000
    ·rw[if_pos h4] at h ⊢
     by_cases h5:hasLoc locs a i=false /\ heldL locs a i+q≠0 /\ 32 <= locs.length
     ·rw[if_pos h5] at h;exact absurd h (by decide)
     ·rw[if_neg h5];exact⟨h1,h2.2,⟨by omega,h4⟩,h5,rfl⟩
    ·rw[if_neg h4] at h;exact absurd h (by decide)
   ·rw[if_neg h3] at h;exact absurd h (by decide)
  ·rw[if_neg h2] at h;exact absurd h (by decide)
 ·rw[if_neg h1] at h;exact absurd h (by decide)
theorem reserveS_good {L:Led} (h:L.Good) {a i q:Int} (he:(reserveS L a i q).err=0):(reserveS L a i q).led.Good:=by
 unfold reserveS at he ⊢
 by_cases h0:2 <= a /\ a<L.accts.length
 ·rw[if_pos h0] at he ⊢
  by_cases h1:(reserveA L.avail L.locs a i q).2.2=0
  ·rw[if_pos h1]
   obtain⟨a1,a2,a3,a4,e⟩:=reserveA_ok h1
   rw[e]
   have hp:=Rises.pair Pos.Lt.trans h.locs.rise
   have hn:=h.locs.len
   refine⟨h.d0,h.d1,⟨h.things.c0,h.things.c1,h.things.u1,h.things.i1,h.things.curs,h.things.unders,h.things.names,h.things.instrs⟩,⟨h.accounts.tree,h.accounts.accts⟩,h.poss,h.orders,⟨by simpa using h.locs.len,?_,?_,?_,rises_of_pair (putLoc_pair hp)⟩,h.ids⟩
   ·have l1:=putLoc_len (a:=a) (i:=i) (q:=heldL L.locs a i+q) L.locs
    have l2:=h.locs.locn
    show (putLoc a i (heldL L.locs a i+q) L.locs).length <= 32
    by_cases hq:heldL L.locs a i+q=0
    ·have:=l1.2 (Or.inl hq);omega
    ·cases hh:hasLoc L.locs a i with
     | true=>have:=l1.2 (Or.inr ⟨hh,hp⟩);omega
     | false =>
       have:¬ 32 <= L.locs.length:=fun z=>a4 ⟨hh,hq,z⟩
       omega
   ·intro y hy
    rcases List.mem_or_eq_of_mem_set hy with hy|hy
    ·exact h.locs.avail y hy
    ·rw[hy];exact a3
   ·intro x hx
    rcases putLoc_mem hx with hx|⟨hq,hx⟩
    ·exact h.locs.all x hx
    ·rw[hx]
     exact⟨h0.1,h0.2,a1.1,by simp only;omega,by simp only;omega,a2.2⟩
  ·rw[if_neg h1] at he;exact absurd he h1
 ·rw[if_neg h0] at he;exact absurd (no_err he) (by decide)
structure Alike (l m:Led):Prop where
 looks:Looks l m
 curs:l.curs=m.curs
 poss:l.poss=m.poss
 orders:l.orders=m.orders
 cash:∀ v:Nat,(l.accts.getD v ⟨-1,[],false,0⟩).cash=(m.accts.getD v ⟨-1,[],false,0⟩).cash
theorem lossO_like {l m:Led} (L:Looks l m) (hp:l.poss=m.poss) (ho:l.orders=m.orders) (a:Nat) (u:Int) (s:Nat):lossO l a u s=lossO m a u s:=by
 unfold lossO
 rw[L.pos,hp,ho]
 congr 1
 funext x
 rw[L.ord]
theorem worstO_like {l m:Led} (L:Looks l m) (hp:l.poss=m.poss) (ho:l.orders=m.orders) (a:Nat) (u:Int):∀ n,worstO l a u n=worstO m a u n
 | 0=>rfl
 | n+1=>by unfold worstO;rw[worstO_like L hp ho a u n,lossO_like L hp ho]
theorem needGo_like {l m:Led} (L:Looks l m) (hc:l.curs=m.curs) (hp:l.poss=m.poss) (ho:l.orders=m.orders) (a:Nat):∀ (us:List Und) (n:Nat) (x:Int),needGo l a n us x=needGo m a n us x
 | [],n,x=>rfl
 | u::r,n,x=>by
   have e:l.cur u.cur=m.cur u.cur:=by unfold Led.cur;rw[hc]
   unfold needGo
   rw[worstO_like L hp ho,e]
   simp only[needGo_like L hc hp ho a r]
theorem cashGo_like (n:Nat):∀ {as bs:List Acc} (x:Int),as.map (·.cash)=bs.map (·.cash) -> cashGo n as x=cashGo n bs x
 | [],[],x,_=>rfl
 | [],b::bs,x,h=>by simp at h
 | a::as,[],x,h=>by simp at h
 | a::as,b::bs,x,h=>by
   simp only[List.map_cons,List.cons.injEq] at h
   unfold cashGo
   rw[h.1]
   congr 1
   funext y
   exact cashGo_like n y h.2
theorem haveGo_like {l m:Led} {a b:Nat} (h:(l.under a).map (·.cash)=(m.under b).map (·.cash)):∀ (cs:List Cur) (n:Nat) (x:Int),haveGo l a n cs x=haveGo m b n cs x
 | [],n,x=>rfl
 | c::r,n,x=>by
   unfold haveGo
   rw[cashGo_like n 0 h]
   simp only[haveGo_like h r]
theorem excessO_like {l m:Led} (h:Alike l m) (a:Nat):excessO l a=excessO m a:=by
 have hu:(l.under a).map (·.cash)=(m.under a).map (·.cash):=by
  unfold Led.under
  rw[h.looks.parents,List.map_map,List.map_map]
  exact List.map_congr_left fun v _=>h.cash v
 unfold excessO haveO needO
 rw[haveGo_like hu,h.curs,h.looks.unders]
 congr 1
 funext x
 rw[needGo_like h.looks h.curs h.poss h.orders]
theorem flagsGo_like {l m:Led} (h:∀ a,excessO l a=excessO m a):∀ (as:List Acc) (v:Nat),flagsGo l v as=flagsGo m v as
 | [],v=>rfl
 | a::r,v=>by
   unfold flagsGo
   rw[h v,flagsGo_like h r (v+1)]
theorem flagsGo_again {l:Led}:∀ {as bs:List Acc} {v:Nat},flagsGo l v as=some bs -> flagsGo l v bs=some bs
 | [],bs,v,h=>by cases h;rfl
 | a::r,bs,v,h=>by
   unfold flagsGo at h
   by_cases hv:v<2
   ·rw[if_pos hv,Option.map_eq_some_iff] at h
    obtain⟨cs,h1,rfl⟩:=h
    unfold flagsGo
    rw[if_pos hv,flagsGo_again h1]
    rfl
   ·rw[if_neg hv,Option.bind_eq_some_iff] at h
    obtain⟨x,hx,h⟩:=h
    rw[Option.map_eq_some_iff] at h
    obtain⟨cs,h1,rfl⟩:=h
    unfold flagsGo
    rw[if_neg hv,hx,flagsGo_again h1]
    rfl
theorem flagsO_alike {l m:Led} (h:flagsO l=some m):Alike l m:=by
 obtain⟨h1,h2,h3,h4,h5,h6,h7,h8,hf⟩:=flagsO_day h
 obtain⟨hn,hk⟩:=flagsGo_some _ _ _ hf
 refine⟨⟨h4.symm,h3.symm,h1.symm,?_⟩,h2.symm,h5.symm,h6.symm,fun v=>?_⟩
 ·exact (map_same (·.parent) hn fun k a b ha hb=>(hk k a b ha hb).1).symm
 ·by_cases hv:v<l.accts.length
  ·have ea:=getD_at l.accts v ⟨-1,[],false,0⟩ hv
   have eb:=getD_at m.accts v ⟨-1,[],false,0⟩ (by omega)
   exact (hk v _ _ ea eb).2.1.symm
  ·have ea:l.accts.getD v ⟨-1,[],false,0⟩=⟨-1,[],false,0⟩:=by rw[List.getD_eq_getElem?_getD,List.getElem?_eq_none (by omega)];rfl
   have eb:m.accts.getD v ⟨-1,[],false,0⟩=⟨-1,[],false,0⟩:=by rw[List.getD_eq_getElem?_getD,List.getElem?_eq_none (by omega)];rfl
   rw[ea,eb]
theorem flagsO_again {l m:Led} (h:flagsO l=some m):flagsO m=some m:=by
 have hf:=(flagsO_day h).2.2.2.2.2.2.2.2
 unfold flagsO
 rw[<- flagsGo_like (fun a=>excessO_like (flagsO_alike h) a),flagsGo_again hf]
 rfl
theorem flagsGo_flag {l:Led}:∀ {as bs:List Acc} {v:Nat},flagsGo l v as=some bs -> ∀ (k:Nat) b,bs[k]?=some b -> 2 <= v+k -> ∃ x,excessO l (v+k)=some x /\ b.flag=decide (x<0)
 | [],bs,v,h,k,b,hb,_=>by cases h;simp at hb
 | a::r,bs,v,h,k,b,hb,hk=>by
   unfold flagsGo at h
   by_cases hv:v<2
   ·rw[if_pos hv,Option.map_eq_some_iff] at h
    obtain⟨cs,h1,rfl⟩:=h
    cases k with
    | zero=>omega
    | succ k =>
      have:=flagsGo_flag h1 k b (by simpa using hb) (by omega)
      rwa [Nat.add_assoc,Nat.add_comm 1 k] at this
   ·rw[if_neg hv,Option.bind_eq_some_iff] at h
    obtain⟨x,hx,h⟩:=h
    rw[Option.map_eq_some_iff] at h
    obtain⟨cs,h1,rfl⟩:=h
    cases k with
    | zero=>cases hb;exact⟨x,hx,rfl⟩
    | succ k =>
      have:=flagsGo_flag h1 k b (by simpa using hb) (by omega)
      rwa [Nat.add_assoc,Nat.add_comm 1 k] at this
theorem excessO_more {l:Led} (h:l.Good) {as:List Acc} (hp:as.map (·.parent)=l.accts.map (·.parent)) (hk:∀ (k n:Nat) p q,l.accts[k]?=some p -> as[k]?=some q -> p.cash.getD n 0 <= q.cash.getD n 0) {a:Nat} {x y:Int}
 (hx:excessO l a=some x) (hy:excessO { l with accts:=as } a=some y):x <= y:=by
 unfold excessO at hx hy
 rw[Option.bind_eq_some_iff] at hx hy
 obtain⟨b,hb,hx⟩:=hx
 obtain⟨b',hb',hy⟩:=hy
 rw[Option.bind_eq_some_iff] at hx hy
 obtain⟨n,hn,hx⟩:=hx
 obtain⟨n',hn',hy⟩:=hy
 have L:Looks { l with accts:=as } l:=⟨rfl,rfl,rfl,hp⟩
 have e:needO { l with accts:=as } a=needO l a:=needGo_like L rfl rfl rfl a _ _ _
 rw[e,hn] at hn'
 cases hn'
 have:=haveO_more h hp hk hb hb'
 have h1:=(subO_some.1 hx).1
 have h2:=(subO_some.1 hy).1
 omega
theorem flag_of {l:Led} (hf:flagsO l=some l) {v:Nat} {b:Acc} (hb:l.accts[v]?=some b) (hv:2 <= v):∃ x,excessO l v=some x /\ b.flag=decide (x<0):=by
 have:=flagsGo_flag (flagsO_day hf).2.2.2.2.2.2.2.2 v b hb (by omega)
 simpa using this
theorem flag_new {l m:Led} (hf:flagsO l=some m) {v:Nat} {b:Acc} (hb:m.accts[v]?=some b) (hv:2 <= v):∃ x,excessO l v=some x /\ b.flag=decide (x<0):=by
 have:=flagsGo_flag (flagsO_day hf).2.2.2.2.2.2.2.2 v b hb (by omega)
 simpa using this
theorem flag_low {l:Led} (h:l.Good) {v:Nat} {b:Acc} (hb:l.accts[v]?=some b) (hv:v<2):b.flag=false:=((h.accounts.accts v b hb).2.2.2.1 hv).1
theorem flags_stay {l l' m:Led} (h:l.Good) (h':l'.Good) (hf:flagsO l=some l) (hm:flagsO l'=some m) {v:Nat} {a b:Acc} (ha:l.accts[v]?=some a) (hb:m.accts[v]?=some b) (hx:excessO l' v=excessO l v):b.flag=a.flag:=by
 by_cases hv:v<2
 ·rw[flag_low h ha hv,flag_low (flagsO_good h' hm) hb hv]
 ·obtain⟨x,e1,e2⟩:=flag_of hf ha (by omega)
  obtain⟨y,e3,e4⟩:=flag_new hm hb (by omega)
  rw[hx,e1] at e3
  cases e3
  rw[e2,e4]
theorem cashS_flags {l m:Led} (h:l.Good) (hf:flagsO l=some l) {a c x:Int} (hx:0 <= x) (he:(cashS l a c x).err=0) (hm:flagsO (cashS l a c x).led=some m) {v:Nat} {p q:Acc} (hp:l.accts[v]?=some p) (hq:m.accts[v]?=some q) (hset:q.flag=true):p.flag=true:=by
 have hg:=cashS_good h he
 by_cases hv:v<2
 ·rw[flag_low (flagsO_good hg hm) hq hv] at hset;cases hset
 ·obtain⟨y,e1,e2⟩:=flag_of hf hp (by omega)
  obtain⟨z,e3,e4⟩:=flag_new hm hq (by omega)
  rw[e4] at hset
  have hz:=of_decide_eq_true hset
  rw[e2]
  apply decide_eq_true
  suffices y <= z by omega
  unfold cashS at he e3
  by_cases h1:0 <= a /\ a<l.accts.length
  ·rw[if_pos h1] at he e3
   by_cases h2:0 <= c /\ c<l.curs.length
   ·rw[if_pos h2] at he e3
    by_cases h3:(cashA l a c x).2=0
    ·rw[if_pos h3] at e3
     have hsum:(cashA l a c x).1=(l.acc a).cash.getD c.toNat 0+x:=by
      unfold cashA addA at h3 ⊢
      split at h3
      ·rename_i h4;rw[if_pos h4]
      ·cases h3
     refine excessO_more h ?_ ?_ e1 e3
     ·exact map_set_eq _ _ _ ⟨-1,[],false,0⟩ _ (by omega) rfl
     ·intro k n p q hp hq
      rw[List.getElem?_set] at hq
      by_cases e:a.toNat=k
      ·rw[if_pos e,if_pos (by omega)] at hq
       cases hq
       have ha:=getD_at l.accts a.toNat ⟨-1,[],false,0⟩ (by omega)
       rw[e] at ha
       rw[ha] at hp
       cases hp
       have hl:(l.acc a).cash.length=l.curs.length:=(h.accounts.accts k _ (by unfold Led.acc;rw[e];exact ha)).1
       show (l.accts.getD k ⟨-1,[],false,0⟩).cash.getD n 0 <= ((l.acc a).cash.set c.toNat (cashA l a c x).1).getD n 0
       have e5:l.acc a=l.accts.getD k ⟨-1,[],false,0⟩:=by unfold Led.acc;rw[e]
       rw[<- e5]
       rw[List.getD_eq_getElem?_getD,List.getD_eq_getElem?_getD,List.getElem?_set]
       by_cases e6:c.toNat=n
       ·rw[if_pos e6,if_pos (by omega),hsum,e6,List.getD_eq_getElem?_getD]
        show _ <= _+x
        omega
       ·rw[if_neg e6];exact Int.le_refl _
      ·rw[if_neg e,hp] at hq
       cases hq
       exact Int.le_refl _
    ·rw[if_neg h3] at he;exact absurd he h3
   ·rw[if_neg h2] at he;exact absurd (no_err he) (by decide)
  ·rw[if_neg h1] at he;exact absurd (no_err he) (by decide)
theorem alike_avail (l:Led) (as:List Int) (ps:List Pos):Alike { l with avail:=as,locs:=ps } l:=⟨⟨rfl,rfl,rfl,rfl⟩,rfl,rfl,rfl,fun _=>rfl⟩
structure Grows (l m:Led):Prop where
 day:m.day=l.day
 accts:m.accts=l.accts
 curs:m.curs=l.curs
 poss:m.poss=l.poss
 orders:m.orders=l.orders
 ins:∀ n:Int,0 <= n -> n<l.instrs.length -> m.ins n=l.ins n
 und:∀ n:Int,0 <= n -> n<l.unders.length -> m.und n=l.und n
theorem Grows.hit {l m:Led} (h:Grows l m) {i:Int} (h0:0 <= i) (h1:i<l.instrs.length) (a:Nat) (u w:Int):m.hit a u i w=l.hit a u i w:=by
 unfold Led.hit Led.parents;rw[h.ins i h0 h1,h.accts]
theorem Grows.gain {l m:Led} (h:Grows l m) (hg:l.Good) {i:Int} (h0:0 <= i) (h1:i<l.instrs.length) (q:Int) (s:Nat) (f:Int):gainO m i q s f=gainO l i q s f:=by
 have ok:=hg.ins_ok h0 h1
 unfold gainO Led.unit;rw[h.ins i h0 h1,h.und _ ok.1 ok.2.1,h.day]
theorem Grows.pos {l m:Led} (h:Grows l m) (hg:l.Good) (a:Nat) (u:Int) (s:Nat):∀ (ps:List Pos) (x:Int),(∀ p∈ps,0 <= p.instr /\ p.instr<l.instrs.length) -> lossPos m a u s ps x=lossPos l a u s ps x
 | [],x,_=>rfl
 | p::r,x,hp=>by
   obtain⟨h0,h1⟩:=hp p (by simp)
   unfold lossPos
   rw[h.hit h0 h1,h.gain hg h0 h1,h.ins _ h0 h1]
   simp only[h.pos hg a u s r _ (fun p hp'=>hp p (List.mem_cons_of_mem _ hp'))]
theorem Grows.ord {l m:Led} (h:Grows l m) (hg:l.Good) (a:Nat) (u:Int) (s:Nat):∀ (ps:List Ord) (x:Int),(∀ p∈ps,0 <= p.instr /\ p.instr<l.instrs.length) -> lossOrd m a u s ps x=lossOrd l a u s ps x
 | [],x,_=>rfl
 | p::r,x,hp=>by
   obtain⟨h0,h1⟩:=hp p (by simp)
   unfold lossOrd
   rw[h.hit h0 h1,h.gain hg h0 h1]
   simp only[h.ord hg a u s r _ (fun p hp'=>hp p (List.mem_cons_of_mem _ hp'))]
theorem Grows.loss {l m:Led} (h:Grows l m) (hg:l.Good) (a:Nat) (u:Int) (s:Nat):lossO m a u s=lossO l a u s:=by
 unfold lossO
 rw[h.poss,h.orders,h.pos hg a u s _ _ (fun p hp=>⟨(hg.poss.all p hp).2.2.1,(hg.poss.all p hp).2.2.2.1⟩)]
 congr 1
 funext x
 exact h.ord hg a u s _ _ (fun p hp=>⟨(hg.orders.all p hp).2.2.2.2.1,(hg.orders.all p hp).2.2.2.2.2.1⟩)
theorem Grows.worst {l m:Led} (h:Grows l m) (hg:l.Good) (a:Nat) (u:Int):∀ n,worstO m a u n=worstO l a u n
 | 0=>rfl
 | n+1=>by unfold worstO;rw[h.worst hg a u n,h.loss hg]
theorem Grows.need {l m:Led} (h:Grows l m) (hg:l.Good) (a:Nat):∀ (us:List Und) (n:Nat) (x:Int),needGo m a n us x=needGo l a n us x
 | [],n,x=>rfl
 | u::r,n,x=>by
   have e:m.cur u.cur=l.cur u.cur:=by unfold Led.cur;rw[h.curs]
   unfold needGo
   rw[h.worst hg,e]
   simp only[h.need hg a r]
theorem getD_snoc {α:Type} (l:List α) (x d:α) {n:Nat} (h:n<l.length):(l++[x]).getD n d=l.getD n d:=by
 rw[List.getD_eq_getElem?_getD,List.getD_eq_getElem?_getD,List.getElem?_append_left h]
theorem grows_instr (l:Led) (i:Ins) (as:List Int):Grows l { l with instrs:=l.instrs++[i],avail:=as } :=
 ⟨rfl,rfl,rfl,rfl,rfl,fun n h0 h1=>getD_snoc _ _ _ (by omega),fun _ _ _=>rfl⟩
theorem grows_under (l:Led) (u:Und):Grows l { l with unders:=l.unders++[u] } :=
 ⟨rfl,rfl,rfl,rfl,rfl,fun _ _ _=>rfl,fun n h0 h1=>getD_snoc _ _ _ (by omega)⟩
theorem excessO_instr {l:Led} (hg:l.Good) (i:Ins) (as:List Int) (a:Nat):excessO { l with instrs:=l.instrs++[i],avail:=as } a=excessO l a:=by
 have G:=grows_instr l i as
 unfold excessO
 rw[haveO_same (l:={ l with instrs:=l.instrs++[i],avail:=as }) (m:=l) rfl rfl]
 congr 1
 funext x
 unfold needO
 rw[G.need hg]
theorem addO_nought {x:Int} (h:fitsA x=true):addO x 0=some x:=by
 rw[addO_some];exact⟨by omega,h,by decide,by rw[Int.add_zero];exact h⟩
theorem addO_fits {a b x:Int} (h:addO a b=some x):fitsA x=true:=by
 obtain⟨rfl,_,_,h⟩:=addO_some.1 h;exact h
theorem needGo_fits {l:Led} {a:Nat}:∀ {us:List Und} {n:Nat} {x y:Int},fitsA x=true -> needGo l a n us x=some y -> fitsA y=true
 | [],n,x,y,hx,h=>by cases h;exact hx
 | u::r,n,x,y,hx,h=>by
   unfold needGo at h
   rw[Option.bind_eq_some_iff] at h
   obtain⟨w,_,h⟩:=h
   rw[Option.bind_eq_some_iff] at h
   obtain⟨b,_,h⟩:=h
   rw[Option.bind_eq_some_iff] at h
   obtain⟨z,hz,h⟩:=h
   exact needGo_fits (addO_fits hz) h
theorem haveGo_fits {l:Led} {a:Nat}:∀ {cs:List Cur} {n:Nat} {x y:Int},fitsA x=true -> haveGo l a n cs x=some y -> fitsA y=true
 | [],n,x,y,hx,h=>by cases h;exact hx
 | u::r,n,x,y,hx,h=>by
   unfold haveGo at h
   rw[Option.bind_eq_some_iff] at h
   obtain⟨w,_,h⟩:=h
   rw[Option.bind_eq_some_iff] at h
   obtain⟨b,_,h⟩:=h
   rw[Option.bind_eq_some_iff] at h
   obtain⟨z,hz,h⟩:=h
   exact haveGo_fits (addO_fits hz) h
theorem cashGo_fits {n:Nat}:∀ {as:List Acc} {x y:Int},fitsA x=true -> cashGo n as x=some y -> fitsA y=true
 | [],x,y,hx,h=>by cases h;exact hx
 | u::r,x,y,hx,h=>by
   unfold cashGo at h
   rw[Option.bind_eq_some_iff] at h
   obtain⟨z,hz,h⟩:=h
   exact cashGo_fits (addO_fits hz) h
theorem needGo_snoc {l:Led} {a:Nat} (u:Und):∀ (us:List Und) (n:Nat) (x:Int),needGo l a n (us++[u]) x=(needGo l a n us x).bind fun y=>needGo l a (n+us.length) [u] y
 | [],n,x=>rfl
 | v::r,n,x=>by
   show ((worstO l a n 21).bind fun w=>(baseO (l.cur v.cur) w 1).bind fun b=>(addO x b).bind fun y=>needGo l a (n+1) (r++[u]) y)=Option.bind ((worstO l a n 21).bind fun w=>(baseO (l.cur v.cur) w 1).bind fun b=>(addO x b).bind fun y=>needGo l a (n+1) r y) _
   have e:n+(v::r).length=n+1+r.length:=by simp;omega
   simp only[Option.bind_assoc,needGo_snoc u r,e]
theorem haveGo_snoc {l:Led} {a:Nat} (u:Cur):∀ (us:List Cur) (n:Nat) (x:Int),haveGo l a n (us++[u]) x=(haveGo l a n us x).bind fun y=>haveGo l a (n+us.length) [u] y
 | [],n,x=>rfl
 | v::r,n,x=>by
   show ((cashGo n (l.under a) 0).bind fun k=>(worthO v k).bind fun b=>(addO x b).bind fun y=>haveGo l a (n+1) (r++[u]) y)=Option.bind ((cashGo n (l.under a) 0).bind fun k=>(worthO v k).bind fun b=>(addO x b).bind fun y=>haveGo l a (n+1) r y) _
   have e:n+(v::r).length=n+1+r.length:=by simp;omega
   simp only[Option.bind_assoc,haveGo_snoc u r,e]
theorem lossPos_miss {l:Led} {a:Nat} {u:Int} {s:Nat}:∀ {ps:List Pos} {x:Int},(∀ p∈ps,(l.ins p.instr).under≠u) -> lossPos l a u s ps x=some x
 | [],x,_=>rfl
 | p::r,x,h=>by
   unfold lossPos
   have:l.hit a u p.instr p.acct=false:=by unfold Led.hit;rw[decide_eq_false (h p (by simp)),Bool.false_and]
   rw[this,if_neg (by decide)]
   exact lossPos_miss fun p hp=>h p (List.mem_cons_of_mem _ hp)
theorem lossOrd_miss {l:Led} {a:Nat} {u:Int} {s:Nat}:∀ {ps:List Ord} {x:Int},(∀ p∈ps,(l.ins p.instr).under≠u) -> lossOrd l a u s ps x=some x
 | [],x,_=>rfl
 | p::r,x,h=>by
   unfold lossOrd
   have:l.hit a u p.instr p.acct=false:=by unfold Led.hit;rw[decide_eq_false (h p (by simp)),Bool.false_and]
   rw[this,if_neg (by decide)]
   exact lossOrd_miss fun p hp=>h p (List.mem_cons_of_mem _ hp)
theorem worstO_miss {l:Led} {a:Nat} {u:Int} (hp:∀ p∈l.poss,(l.ins p.instr).under≠u) (ho:∀ p∈l.orders,(l.ins p.instr).under≠u):∀ n,worstO l a u n=some 0
 | 0=>rfl
 | n+1=>by
   unfold worstO lossO
   rw[worstO_miss hp ho n,lossPos_miss hp]
   show ((lossOrd l a u n l.orders 0).map fun x=>max 0 x)=_
   rw[lossOrd_miss ho]
   rfl
theorem excessO_under {l:Led} (hg:l.Good) {u:Und} (hu:u.Ok l.curs.length) (a:Nat):excessO { l with unders:=l.unders++[u] } a=excessO l a:=by
 have G:=grows_under l u
 unfold excessO
 rw[haveO_same (l:={ l with unders:=l.unders++[u] }) (m:=l) rfl rfl]
 congr 1
 funext x
 have e:needO { l with unders:=l.unders++[u] } a=needO l a:=by
  show needGo { l with unders:=l.unders++[u] } a 0 (l.unders++[u]) 0=needGo l a 0 l.unders 0
  rw[needGo_snoc,G.need hg]
  cases hn:needGo l a 0 l.unders 0 with
  | none=>rfl
  | some y =>
    have hf:=needGo_fits (by decide) hn
    have hw:worstO { l with unders:=l.unders++[u] } a ((0+l.unders.length:Nat):Int) 21=some 0:=by
     apply worstO_miss
     ·intro p hp
      obtain⟨_,_,h0,h1,_⟩:=hg.poss.all p hp
      have:=(hg.ins_ok h0 h1).2.1
      show (l.ins p.instr).under≠_
      omega
     ·intro p hp
      obtain⟨_,_,_,_,h0,h1,_⟩:=hg.orders.all p hp
      have:=(hg.ins_ok h0 h1).2.1
      show (l.ins p.instr).under≠_
      omega
    show needGo { l with unders:=l.unders++[u] } a (0+l.unders.length) [u] y=some y
    unfold needGo
    rw[hw]
    have hc:(l.cur u.cur).Ok u.cur.toNat:=by
     have:=hg.cur_ok (n:=u.cur.toNat) (by have:=hu.2.1;have:=hu.2.2.1;omega)
     have e:((u.cur.toNat:Nat):Int)=u.cur:=by have:=hu.2.1;omega
     rwa [e] at this
    show ((baseO (l.cur u.cur) 0 1).bind fun b=>(addO y b).bind fun z=>some z)=_
    rw[baseO_zero hc]
    show ((addO y 0).bind fun z=>some z)=_
    rw[addO_nought hf]
    rfl
 rw[e]
theorem cashGo_at (n:Nat):∀ {as bs:List Acc} (x:Int),as.map (fun a=>a.cash.getD n 0)=bs.map (fun a=>a.cash.getD n 0) -> cashGo n as x=cashGo n bs x
 | [],[],x,_=>rfl
 | [],b::bs,x,h=>by simp at h
 | a::as,[],x,h=>by simp at h
 | a::as,b::bs,x,h=>by
   simp only[List.map_cons,List.cons.injEq] at h
   unfold cashGo
   rw[h.1]
   congr 1
   funext y
   exact cashGo_at n y h.2
theorem haveGo_at {l m:Led} {a b:Nat} (h:∀ n,(l.under a).map (fun a=>a.cash.getD n 0)=(m.under b).map (fun a=>a.cash.getD n 0)):∀ (cs:List Cur) (n:Nat) (x:Int),haveGo l a n cs x=haveGo m b n cs x
 | [],n,x=>rfl
 | c::r,n,x=>by
   unfold haveGo
   rw[cashGo_at n 0 (h n)]
   simp only[haveGo_at h r]
theorem getD_more (l:List Int) (n:Nat):(l++[0]).getD n 0=l.getD n 0:=by
 rcases Nat.lt_trichotomy n l.length with h|h|h
 ·exact getD_snoc l 0 0 h
 ·subst h;simp[List.getD_eq_getElem?_getD]
 ·rw[List.getD_eq_getElem?_getD,List.getD_eq_getElem?_getD,List.getElem?_eq_none (by simp;omega),List.getElem?_eq_none (by omega)]
theorem needGo_cur {l m:Led} (L:Looks l m) (hp:l.poss=m.poss) (ho:l.orders=m.orders) (a:Nat):∀ (us:List Und) (n:Nat) (x:Int),(∀ u∈us,l.cur u.cur=m.cur u.cur) -> needGo l a n us x=needGo m a n us x
 | [],n,x,_=>rfl
 | u::r,n,x,h=>by
   unfold needGo
   rw[worstO_like L hp ho,h u (by simp)]
   simp only[needGo_cur L hp ho a r _ _ (fun u hu=>h u (List.mem_cons_of_mem _ hu))]
def Led.newCur (l:Led) (c:Cur):Led:={ l with curs:=l.curs++[c],accts:=l.accts.map fun a=>{ a with cash:=a.cash++[0] } }
theorem newCur_parents (l:Led) (c:Cur):(l.newCur c).parents=l.parents:=by
 unfold Led.parents Led.newCur;rw[List.map_map];rfl
theorem newCur_under {l:Led} (c:Cur) (a:Nat):(l.newCur c).under a=(l.under a).map fun a=>{ a with cash:=a.cash++[0] }:=by
 unfold Led.under
 rw[newCur_parents,List.map_map]
 apply List.map_congr_left
 intro v hv
 have hvl:v<l.accts.length:=by
  have:=(mem_belowL.1 hv).1
  simpa [Led.parents] using this
 show (l.accts.map fun a=>({ a with cash:=a.cash++[0] }:Acc)).getD v ⟨-1,[],false,0⟩=({ l.accts.getD v ⟨-1,[],false,0⟩ with cash:=(l.accts.getD v ⟨-1,[],false,0⟩).cash++[0] }:Acc)
 rw[List.getD_eq_getElem?_getD,List.getElem?_map,getD_at l.accts v ⟨-1,[],false,0⟩ hvl]
 rfl
theorem excessO_newCur {l:Led} (hg:l.Good) {c:Cur} (hc:c.Ok l.curs.length) (a:Nat):excessO (l.newCur c) a=excessO l a:=by
 have L:Looks (l.newCur c) l:=⟨rfl,rfl,rfl,newCur_parents l c⟩
 have hh:haveO (l.newCur c) a=haveO l a:=by
  show haveGo (l.newCur c) a 0 (l.curs++[c]) 0=haveGo l a 0 l.curs 0
  rw[haveGo_snoc]
  have e1:haveGo (l.newCur c) a 0 l.curs 0=haveGo l a 0 l.curs 0:=by
   apply haveGo_at
   intro n
   rw[newCur_under,List.map_map]
   apply List.map_congr_left
   intro b _
   exact getD_more b.cash n
  rw[e1]
  cases hn:haveGo l a 0 l.curs 0 with
  | none=>rfl
  | some y =>
    have hf:=haveGo_fits (by decide) hn
    show haveGo (l.newCur c) a (0+l.curs.length) [c] y=some y
    unfold haveGo
    have hz:cashGo (0+l.curs.length) ((l.newCur c).under a) 0=some 0:=by
     apply cashGo_zero
     intro b hb
     rw[newCur_under] at hb
     obtain⟨b0,hb0,rfl⟩:=List.mem_map.1 hb
     show (b0.cash++[0]).getD (0+l.curs.length) 0=0
     rw[getD_more]
     unfold Led.under at hb0
     obtain⟨v,hv,rfl⟩:=List.mem_map.1 hb0
     have hvl:v<l.accts.length:=by
      have:=(mem_belowL.1 hv).1
      simpa [Led.parents] using this
     have:=(hg.accounts.accts v _ (getD_at l.accts v ⟨-1,[],false,0⟩ hvl)).1
     rw[List.getD_eq_getElem?_getD,List.getElem?_eq_none (by omega)]
     rfl
    rw[hz]
    show ((worthO c 0).bind fun b=>(addO y b).bind fun z=>some z)=_
    rw[worthO_zero hc]
    show ((addO y 0).bind fun z=>some z)=_
    rw[addO_nought hf]
    rfl
 have hn:needO (l.newCur c) a=needO l a:=by
  show needGo (l.newCur c) a 0 l.unders 0=needGo l a 0 l.unders 0
  apply needGo_cur L rfl rfl
  intro u hu
  obtain⟨k,e,hk,_⟩:=hg.und_cur hu
  show (l.curs++[c]).getD u.cur.toNat ⟨0,0⟩=l.curs.getD u.cur.toNat ⟨0,0⟩
  exact getD_snoc _ _ _ (by omega)
 unfold excessO
 rw[hh,hn]
theorem upL_snoc {ps:List Int} {n:Nat} (hf:Falls ps n) (hn:n <= ps.length) (p:Int):∀ (f u:Nat),u<n -> upL (ps++[p]) f u=upL ps f u
 | 0,u,_=>rfl
 | f+1,u,hu=>by
   show u::_=u::_
   rw[List.getElem?_append_left (by omega)]
   congr 1
   cases hq:ps[u]? with
   | none=>rfl
   | some q =>
     show (if q=-1 then [] else upL (ps++[p]) f q.toNat)=(if q=-1 then [] else upL ps f q.toNat)
     by_cases h1:q=-1
     ·rw[if_pos h1,if_pos h1]
     ·rw[if_neg h1,if_neg h1]
      rcases hf u q hu hq with h2|h2
      ·exact absurd h2 h1
      ·exact upL_snoc hf hn p f q.toNat (by omega)
theorem pathL_snoc {ps:List Int} (hf:Falls ps ps.length) (p:Int) {u:Nat} (hu:u<ps.length):pathL (ps++[p]) u=pathL ps u:=upL_snoc hf (Nat.le_refl _) p _ _ hu
theorem underL_snoc {ps:List Int} (hf:Falls ps ps.length) (p:Int) (v:Nat) {u:Nat} (hu:u<ps.length):underL (ps++[p]) v u=underL ps v u:=by
 unfold underL;rw[pathL_snoc hf p hu]
theorem belowL_snoc {ps:List Int} (hf:Falls ps ps.length) (p:Int) (v:Nat):belowL (ps++[p]) v=belowL ps v++(if underL (ps++[p]) v ps.length=true then [ps.length] else []):=by
 unfold belowL
 rw[List.length_append,List.length_singleton,List.range_succ,List.filter_append]
 congr 1
 ·apply List.filter_congr
  intro u hu
  exact underL_snoc hf p v (List.mem_range.1 hu)
 ·by_cases h:underL (ps++[p]) v ps.length=true
  ·rw[if_pos h];simp[h]
  ·rw[if_neg h];simp[h]
def Led.newAcc (l:Led) (p:Int):Led:={ l with accts:=l.accts++[⟨p,List.replicate l.curs.length 0,false,0⟩] }
theorem newAcc_parents (l:Led) (p:Int):(l.newAcc p).parents=l.parents++[p]:=by unfold Led.parents Led.newAcc;simp
theorem Led.Good.falls {l:Led} (h:l.Good):Falls l.parents l.parents.length:=h.accounts.tree.falls _
theorem parents_len (l:Led):l.parents.length=l.accts.length:=by unfold Led.parents;simp
theorem newAcc_hit {l:Led} (hg:l.Good) (p:Int) (a:Nat) (u i:Int) {w:Int} (h0:2 <= w) (h1:w<l.accts.length):(l.newAcc p).hit a u i w=l.hit a u i w:=by
 unfold Led.hit
 rw[newAcc_parents,underL_snoc hg.falls p a (by rw[parents_len];omega)]
 rfl
theorem newAcc_pos {l:Led} (hg:l.Good) (p:Int) (a:Nat) (u:Int) (s:Nat):∀ (ps:List Pos) (x:Int),(∀ y∈ps,2 <= y.acct /\ y.acct<l.accts.length) -> lossPos (l.newAcc p) a u s ps x=lossPos l a u s ps x
 | [],x,_=>rfl
 | y::r,x,h=>by
   obtain⟨h0,h1⟩:=h y (by simp)
   unfold lossPos
   rw[newAcc_hit hg p a u _ h0 h1]
   simp only[newAcc_pos hg p a u s r _ (fun y hy=>h y (List.mem_cons_of_mem _ hy))]
   rfl
theorem newAcc_ord {l:Led} (hg:l.Good) (p:Int) (a:Nat) (u:Int) (s:Nat):∀ (ps:List Ord) (x:Int),(∀ y∈ps,2 <= y.acct /\ y.acct<l.accts.length) -> lossOrd (l.newAcc p) a u s ps x=lossOrd l a u s ps x
 | [],x,_=>rfl
 | y::r,x,h=>by
   obtain⟨h0,h1⟩:=h y (by simp)
   unfold lossOrd
   rw[newAcc_hit hg p a u _ h0 h1]
   simp only[newAcc_ord hg p a u s r _ (fun y hy=>h y (List.mem_cons_of_mem _ hy))]
   rfl
theorem newAcc_loss {l:Led} (hg:l.Good) (p:Int) (a:Nat) (u:Int) (s:Nat):lossO (l.newAcc p) a u s=lossO l a u s:=by
 show ((lossPos (l.newAcc p) a u s l.poss 0).bind fun x=>lossOrd (l.newAcc p) a u s l.orders x)=_
 rw[newAcc_pos hg p a u s _ _ (fun y hy=>⟨(hg.poss.all y hy).1,(hg.poss.all y hy).2.1⟩)]
 unfold lossO
 congr 1
 funext x
 exact newAcc_ord hg p a u s _ _ (fun y hy=>⟨(hg.orders.all y hy).1,(hg.orders.all y hy).2.1⟩)
theorem newAcc_worst {l:Led} (hg:l.Good) (p:Int) (a:Nat) (u:Int):∀ n,worstO (l.newAcc p) a u n=worstO l a u n
 | 0=>rfl
 | n+1=>by unfold worstO;rw[newAcc_worst hg p a u n,newAcc_loss hg]
theorem newAcc_need {l:Led} (hg:l.Good) (p:Int) (a:Nat):∀ (us:List Und) (n:Nat) (x:Int),needGo (l.newAcc p) a n us x=needGo l a n us x
 | [],n,x=>rfl
 | u::r,n,x=>by
   unfold needGo
   rw[newAcc_worst hg]
   simp only[newAcc_need hg p a r]
   rfl
theorem cashGo_app (n:Nat):∀ (as bs:List Acc) (x:Int),cashGo n (as++bs) x=(cashGo n as x).bind fun y=>cashGo n bs y
 | [],bs,x=>rfl
 | a::r,bs,x=>by
   show ((addO x (a.cash.getD n 0)).bind fun y=>cashGo n (r++bs) y)=Option.bind ((addO x (a.cash.getD n 0)).bind fun y=>cashGo n r y) _
   simp only[Option.bind_assoc,cashGo_app n r bs]
theorem newAcc_under {l:Led} (hg:l.Good) (p:Int) (a:Nat):∃ zs:List Acc,(l.newAcc p).under a=l.under a++zs /\ (zs=[] \/ zs=[⟨p,List.replicate l.curs.length 0,false,0⟩]):=by
 unfold Led.under
 rw[newAcc_parents,belowL_snoc hg.falls,List.map_append]
 have e:(belowL l.parents a).map (fun v=>(l.newAcc p).accts.getD v ⟨-1,[],false,0⟩)=(belowL l.parents a).map (fun v=>l.accts.getD v ⟨-1,[],false,0⟩):=by
  apply List.map_congr_left
  intro v hv
  have hvl:=(mem_belowL.1 hv).1
  rw[parents_len] at hvl
  exact getD_snoc _ _ _ hvl
 rw[e]
 refine⟨_,rfl,?_⟩
 by_cases h:underL (l.parents++[p]) a l.parents.length=true
 ·rw[if_pos h]
  right
  show [(l.accts++[(⟨p,List.replicate l.curs.length 0,false,0⟩:Acc)]).getD l.parents.length ⟨-1,[],false,0⟩]=_
  rw[parents_len,List.getD_eq_getElem?_getD]
  simp
 ·rw[if_neg h];left;rfl
theorem newAcc_cash {l:Led} (hg:l.Good) (p:Int) (a n:Nat):cashGo n ((l.newAcc p).under a) 0=cashGo n (l.under a) 0:=by
 obtain⟨zs,e,h⟩:=newAcc_under hg p a
 rw[e,cashGo_app]
 cases hn:cashGo n (l.under a) 0 with
 | none=>rfl
 | some y =>
   have hf:=cashGo_fits (by decide) hn
   rcases h with rfl|rfl
   ·rfl
   ·show ((addO y ((List.replicate l.curs.length (0:Int)).getD n 0)).bind fun z=>some z)=some y
    have:(List.replicate l.curs.length (0:Int)).getD n 0=0:=by
     rw[List.getD_eq_getElem?_getD,List.getElem?_replicate]
     split <;> rfl
    rw[this,addO_nought hf]
    rfl
theorem newAcc_have {l:Led} (hg:l.Good) (p:Int) (a:Nat):∀ (cs:List Cur) (n:Nat) (x:Int),haveGo (l.newAcc p) a n cs x=haveGo l a n cs x
 | [],n,x=>rfl
 | c::r,n,x=>by
   unfold haveGo
   rw[newAcc_cash hg]
   simp only[newAcc_have hg p a r]
theorem excessO_newAcc {l:Led} (hg:l.Good) (p:Int) (a:Nat):excessO (l.newAcc p) a=excessO l a:=by
 show ((haveGo (l.newAcc p) a 0 l.curs 0).bind fun h=>(needGo (l.newAcc p) a 0 l.unders 0).bind fun n=>subO h n)=_
 rw[newAcc_have hg,newAcc_need hg]
 rfl
noncomputable def admS (L:Led) (k:Nat) (A B C:Int) (u:Und) (i:Ins):Adm :=
 match k with
 | 0=>priceS L A B C
 | 1=>rateS L A B C
 | 2=>cashS L A B C
 | 3=>accountS L A
 | 4=>underS L u
 | 5=>instrS L i
 | 6=>supplyS L A B
 | _=>reserveS L A B C
theorem admS_good {L:Led} (h:L.Good):∀ {k:Nat} {A B C:Int} {u:Und} {i:Ins},(admS L k A B C u i).err=0 -> (admS L k A B C u i).led.Good
 | 0,_,_,_,_,_,he=>priceS_good h he
 | 1,_,_,_,_,_,he=>rateS_good h he
 | 2,_,_,_,_,_,he=>cashS_good h he
 | 3,_,_,_,_,_,he=>accountS_good h he
 | 4,_,_,_,_,_,he=>underS_good h he
 | 5,_,_,_,_,_,he=>instrS_good h he
 | 6,_,_,_,_,_,he=>supplyS_good h he
 | _+7,_,_,_,_,_,he=>reserveS_good h he
theorem rateS_new {L:Led} {c r k:Int} (hc:¬ c<L.curs.length) (he:(rateS L c r k).err=0):Cur.Ok ⟨r,k⟩ L.curs.length /\ c=L.curs.length /\ rateS L c r k=⟨L.newCur ⟨r,k⟩,c,0⟩:=by
 unfold rateS at he ⊢
 by_cases h1:0 <= c /\ c <= L.curs.length /\ Cur.Ok ⟨r,k⟩ c.toNat
 ·rw[if_pos h1,if_neg hc] at he ⊢
  have e:c=L.curs.length:=by omega
  by_cases h3:c<4
  ·rw[if_pos h3]
   refine⟨?_,e,rfl⟩
   have:=h1.2.2
   rw[e] at this
   simpa using this
  ·rw[if_neg h3] at he;exact absurd (no_err he) (by decide)
 ·rw[if_neg h1] at he;exact absurd (no_err he) (by decide)
theorem accountS_ok {L:Led} {p:Int} (he:(accountS L p).err=0):accountS L p=⟨L.newAcc p,L.accts.length,0⟩:=by
 unfold accountS at he ⊢
 by_cases h1:chkA (L.parents++[p])=0
 ·rw[if_pos h1];rfl
 ·rw[if_neg h1] at he;exact absurd he h1
theorem underS_ok {L:Led} {u:Und} (he:(underS L u).err=0):u.Ok L.curs.length /\ underS L u=⟨{ L with unders:=L.unders++[u] },L.unders.length,0⟩:=by
 unfold underS at he ⊢
 by_cases h1:L.unders.length<6
 ·rw[if_pos h1] at he ⊢
  by_cases h2:nameB u.name=true /\ ∀ x∈L.unders,x.name≠u.name
  ·rw[if_pos h2] at he ⊢
   by_cases h3:u.Ok L.curs.length
   ·rw[if_pos h3];exact⟨h3,rfl⟩
   ·rw[if_neg h3] at he;exact absurd (no_err he) (by decide)
  ·rw[if_neg h2] at he;exact absurd (no_err he) (by decide)
 ·rw[if_neg h1] at he;exact absurd (no_err he) (by decide)
theorem instrS_ok {L:Led} {i:Ins} (he:(instrS L i).err=0):instrS L i=⟨{ L with instrs:=L.instrs++[{ i with mark:=(markA L i).1 }],avail:=L.avail++[0] },L.instrs.length,0⟩:=by
 unfold instrS at he ⊢
 by_cases h1:L.instrs.length<12
 ·rw[if_pos h1] at he ⊢
  by_cases h2:i.noMark.Ok L.unders.length
  ·rw[if_pos h2] at he ⊢
   by_cases h3:i.expiry=0 \/ L.day <= i.expiry
   ·rw[if_pos h3] at he ⊢
    by_cases h5:(markA L i).2=0
    ·rw[if_pos h5] at he ⊢
     by_cases h4:(markA L i).1 <= 100000000000000
     ·rw[if_pos h4]
     ·rw[if_neg h4] at he;exact absurd (no_err he) (by decide)
    ·rw[if_neg h5] at he;exact absurd he h5
   ·rw[if_neg h3] at he;exact absurd (no_err he) (by decide)
  ·rw[if_neg h2] at he;exact absurd (no_err he) (by decide)
 ·rw[if_neg h1] at he;exact absurd (no_err he) (by decide)
theorem supplyS_ok {L:Led} {i q:Int} (he:(supplyS L i q).err=0):∃ as,(supplyS L i q).led={ L with avail:=as,locs:=L.locs }:=by
 unfold supplyS at he ⊢
 by_cases h1:(supplyA L.avail i q).2=0
 ·rw[if_pos h1];exact⟨_,rfl⟩
 ·rw[if_neg h1] at he;exact absurd he h1
theorem reserveS_ok {L:Led} {a i q:Int} (he:(reserveS L a i q).err=0):∃ as ps,(reserveS L a i q).led={ L with avail:=as,locs:=ps }:=by
 unfold reserveS at he ⊢
 by_cases h0:2 <= a /\ a<L.accts.length
 ·rw[if_pos h0] at he ⊢
  by_cases h1:(reserveA L.avail L.locs a i q).2.2=0
  ·rw[if_pos h1];exact⟨_,_,rfl⟩
  ·rw[if_neg h1] at he;exact absurd he h1
 ·rw[if_neg h0] at he;exact absurd (no_err he) (by decide)
theorem admS_excess {L:Led} (h:L.Good) {k:Nat} {A B C:Int} {u:Und} {i:Ins} (he:(admS L k A B C u i).err=0) (h0:k≠0) (h1:k=1 -> ¬ A<L.curs.length) (h2:k≠2) (a:Nat) :
 excessO (admS L k A B C u i).led a=excessO L a:=by
 match k,he,h0,h1,h2 with
 | 0,_,h0,_,_=>exact absurd rfl h0
 | 1,he,_,h1,_ =>
   obtain⟨hc,_,e⟩:=rateS_new (h1 rfl) he
   show excessO (rateS L A B C).led a=_
   rw[e]
   exact excessO_newCur h hc a
 | 2,_,_,_,h2=>exact absurd rfl h2
 | 3,he,_,_,_ =>
   show excessO (accountS L A).led a=_
   rw[accountS_ok he]
   exact excessO_newAcc h A a
 | 4,he,_,_,_ =>
   obtain⟨hu,e⟩:=underS_ok he
   show excessO (underS L u).led a=_
   rw[e]
   exact excessO_under h hu a
 | 5,he,_,_,_ =>
   show excessO (instrS L i).led a=_
   rw[instrS_ok he]
   exact excessO_instr h _ _ a
 | 6,he,_,_,_ =>
   obtain⟨as,e⟩:=supplyS_ok he
   show excessO (supplyS L A B).led a=_
   rw[e]
   exact excessO_like (alike_avail L as _) a
 | k+7,he,_,_,_ =>
   obtain⟨as,ps,e⟩:=reserveS_ok he
   show excessO (reserveS L A B C).led a=_
   rw[e]
   exact excessO_like (alike_avail L as ps) a
theorem admS_flags {L m:Led} (h:L.Good) (hf:flagsO L=some L) {k:Nat} {A B C:Int} {u:Und} {i:Ins} (he:(admS L k A B C u i).err=0) (hm:flagsO (admS L k A B C u i).led=some m)
 (h0:k≠0) (h1:k=1 -> ¬ A<L.curs.length) (h2:k=2 -> 0 <= C) {v:Nat} {p q:Acc} (hp:L.accts[v]?=some p) (hq:m.accts[v]?=some q) :
 (q.flag=true -> p.flag=true) /\ (k≠2 -> q.flag=p.flag):=by
 by_cases hk:k=2
 ·subst hk
  exact⟨cashS_flags h hf (h2 rfl) he hm hp hq,fun hh=>absurd rfl hh⟩
 ·have e:=flags_stay h (admS_good h he) hf hm hp hq (admS_excess h he h0 h1 hk v)
  exact⟨fun hh=>by rw[<- e];exact hh,fun _=>e⟩
theorem flagsO_only {l m:Led} (h:flagsO l=some m):m={ l with accts:=m.accts } /\ m.accts.length=l.accts.length /\ ∀ (v:Nat) a b,l.accts[v]?=some a -> m.accts[v]?=some b -> ({ b with flag:=a.flag }:Acc)=a:=by
 obtain⟨h1,h2,h3,h4,h5,h6,h7,h8,hf⟩:=flagsO_day h
 obtain⟨hn,hk⟩:=flagsGo_some _ _ _ hf
 refine⟨?_,hn,fun v a b ha hb=>?_⟩
 ·cases m;cases l
  simp only at h1 h2 h3 h4 h5 h6 h7 h8
  subst h1 h2 h3 h4 h5 h6 h7 h8
  rfl
 ·obtain⟨e1,e2,e3,_⟩:=hk v a b ha hb
  cases a;cases b
  simp only at e1 e2 e3
  subst e1 e2 e3
  rfl
theorem set_back {α:Type} (l:List α) (k:Nat) (d x:α) (hk:k<l.length):(l.set k x).set k (l.getD k d)=l:=by
 rw[List.set_set]
 apply List.ext_getElem?
 intro n
 rw[List.getElem?_set]
 by_cases e:k=n
 ·subst e;rw[if_pos rfl,if_pos hk,getD_at l k d hk]
 ·rw[if_neg e]
def keyLt (a i:Int) (x:Pos):Bool:=decide (x.acct<a \/ x.acct=a /\ x.instr<i)
def posOf (a i:Int):List Pos -> Nat
 | []=>0
 | x::r=>if keyLt a i x=true then posOf a i r+1 else 0
theorem posOf_le (a i:Int):∀ l:List Pos,posOf a i l <= l.length
 | []=>Nat.le_refl _
 | x::r=>by
   unfold posOf
   split
   ·have:=posOf_le a i r;simp;omega
   ·exact Nat.zero_le _
theorem posOf_one {a i:Int}:∀ {l:List Pos} {n:Nat},n <= l.length -> (∀ (k:Nat) x,k<n -> l[k]?=some x -> keyLt a i x=true) -> (∀ x,l[n]?=some x -> keyLt a i x=false) -> posOf a i l=n
 | [],n,hn,_,_=>by have:n=0:=by simpa using hn
                   subst this;rfl
 | x::r,0,hn,lo,hi=>by
   unfold posOf
   rw[hi x rfl,if_neg (by decide)]
 | x::r,n+1,hn,lo,hi=>by
   unfold posOf
   rw[lo 0 x (by omega) rfl,if_pos rfl,posOf_one (n:=n) (by simpa using hn) (fun k y hk hy=>lo (k+1) y (by omega) (by simpa using hy)) (fun y hy=>hi y (by simpa using hy))]
def thereL (a i:Int) (l:List Pos):Bool:=match l[posOf a i l]? with|some y=>decide (y.acct=a /\ y.instr=i)|none=>false
theorem putLoc_there {a i q:Int}:∀ {l:List Pos},thereL a i l=true -> putLoc a i q l=if q=0 then l.eraseIdx (posOf a i l) else l.set (posOf a i l) ⟨a,i,q⟩
 | [],h=>by cases h
 | x::r,h=>by
   unfold thereL posOf at h
   unfold putLoc posOf
   by_cases hk:keyLt a i x=true
   ·rw[if_pos hk] at h ⊢
    have hlt:=of_decide_eq_true hk
    rw[if_neg (by omega),if_neg (by omega),putLoc_there (l:=r) (by unfold thereL;simpa using h)]
    by_cases hq:q=0
    ·rw[if_pos hq,if_pos hq];rfl
    ·rw[if_neg hq,if_neg hq];rfl
   ·rw[if_neg hk] at h ⊢
    have he:x.acct=a /\ x.instr=i:=by simpa using h
    rw[if_pos he]
    rfl
theorem putLoc_new {a i q:Int}:∀ {l:List Pos},thereL a i l=false -> putLoc a i q l=if q=0 then l else l.take (posOf a i l)++⟨a,i,q⟩::l.drop (posOf a i l)
 | [],h=>by unfold putLoc posOf;by_cases hq:q=0 <;> simp[hq]
 | x::r,h=>by
   unfold thereL posOf at h
   unfold putLoc posOf
   by_cases hk:keyLt a i x=true
   ·rw[if_pos hk] at h ⊢
    have hlt:=of_decide_eq_true hk
    rw[if_neg (by omega),if_neg (by omega),putLoc_new (l:=r) (by unfold thereL;simpa using h)]
    by_cases hq:q=0
    ·rw[if_pos hq,if_pos hq]
    ·rw[if_neg hq,if_neg hq];rfl
   ·rw[if_neg hk] at h ⊢
    have he:¬ (x.acct=a /\ x.instr=i):=by simpa using h
    have hge:¬ (x.acct<a \/ x.acct=a /\ x.instr<i):=fun hh=>hk (decide_eq_true hh)
    rw[if_neg he,if_pos (by omega)]
    rfl
theorem thereL_has {a i:Int}:∀ {l:List Pos},l.Pairwise Pos.Lt -> thereL a i l=hasLoc l a i
 | [],_=>rfl
 | x::r,h=>by
   obtain⟨hx,hr⟩:=List.pairwise_cons.1 h
   have ih:=thereL_has (a:=a) (i:=i) hr
   by_cases hk:keyLt a i x=true
   ·have hlt:=of_decide_eq_true hk
    have hp:posOf a i (x::r)=posOf a i r+1:=by
     show (if keyLt a i x=true then posOf a i r+1 else 0)=_
     rw[if_pos hk]
    have e:thereL a i (x::r)=thereL a i r:=by unfold thereL;rw[hp,List.getElem?_cons_succ]
    rw[e,ih]
    unfold hasLoc
    rw[List.any_cons,decide_eq_false (by omega),Bool.false_or]
   ·have e:thereL a i (x::r)=decide (x.acct=a /\ x.instr=i):=by unfold thereL posOf;rw[if_neg hk];rfl
    rw[e]
    unfold hasLoc
    rw[List.any_cons]
    by_cases he:x.acct=a /\ x.instr=i
    ·rw[decide_eq_true he];rfl
    ·rw[decide_eq_false he,Bool.false_or]
     symm
     rw[List.any_eq_false]
     intro y hy hc
     have hc:=of_decide_eq_true hc
     have:=hx y hy
     have hge:¬ (x.acct<a \/ x.acct=a /\ x.instr<i):=fun hh=>hk (decide_eq_true hh)
     unfold Pos.Lt at this
     omega
end Go.Bw
