/- Joined: AdmP, AdmQ, AdmR, AdmS, AdmT, AdmU, AdmV, AdmW, LocP, LocD. -/
import Derived.Test.YtnkpdfjnjmmleaaGreatDoorGb
namespace Go.Bw
open Classical
set_option linter.unusedVariables false
set_option linter.unusedSimpArgs false
structure Adm where
 led:Led
 num:Int
 err:Int
def Adm.no (e:Int):Adm:=⟨⟨0,[],[],[],[],[],[],[],[]⟩,0,e⟩
noncomputable def priceS (L:Led) (u p v:Int):Adm :=
 if 0≤u∧u<L.unders.length then
  if Und.Ok { L.und u with price:=p,vol:=v } L.curs.length then ⟨{ L with unders:=L.unders.set u.toNat { L.und u with price:=p,vol:=v } },u,0⟩ else .no 37
 else .no 31
noncomputable def rateS (L:Led) (c r h:Int):Adm :=
 if 0≤c∧c≤L.curs.length∧Cur.Ok ⟨r,h⟩ c.toNat then
  if c<L.curs.length then ⟨{ L with curs:=L.curs.set c.toNat ⟨r,h⟩ },c,0⟩
  else if c<4 then ⟨{ L with curs:=L.curs++[⟨r,h⟩],accts:=L.accts.map fun a=>{ a with cash:=a.cash++[0] } },c,0⟩
  else .no 40
 else .no 30
def Led.acc (l:Led) (n:Int):Acc:=l.accts.getD n.toNat ⟨-1,[],false,0⟩
noncomputable def chkA (ps:List Int):Int:=if ps.length<2 then 33 else if 16<ps.length then 40 else if TreeOk ps then 0 else 33
noncomputable def accountS (L:Led) (p:Int):Adm :=
 if chkA (L.parents++[p])=0 then ⟨{ L with accts:=L.accts++[⟨p,List.replicate L.curs.length 0,false,0⟩] },L.accts.length,0⟩ else .no (chkA (L.parents++[p]))
noncomputable def underS (L:Led) (u:Und):Adm :=
 if L.unders.length<6 then
  if nameB u.name=true∧∀ x∈L.unders,x.name≠u.name then
   if u.Ok L.curs.length then ⟨{ L with unders:=L.unders++[u] },L.unders.length,0⟩ else .no 31
  else .no 42
 else .no 40
def Ins.noMark (i:Ins):Ins:={ i with mark:=0 }
def nowA (i:Ins) (u:Und) (day:Int):Int×Int :=
 if (0≤u.price∧u.price≤1000000000000)∧(0≤u.vol∧u.vol≤50000) then unitA i u.price u.vol day else (0,1)
def markA (L:Led) (i:Ins):Int×Int:=nowA i.noMark (L.und i.under) L.day
noncomputable def instrS (L:Led) (i:Ins):Adm :=
 if L.instrs.length<12 then
  if i.noMark.Ok L.unders.length then
   if i.expiry=0∨L.day≤i.expiry then
    if (markA L i).2=0 then
     if (markA L i).1≤100000000000000 then ⟨{ L with instrs:=L.instrs++[{ i with mark:=(markA L i).1 }],avail:=L.avail++[0] },L.instrs.length,0⟩ else .no 4
    else .no (markA L i).2
   else .no 41
  else .no 32
 else .no 40
def putLoc (a i q:Int):List Pos→List Pos
 | []=>if q=0 then [] else [⟨a,i,q⟩]
 | x::r=>if x.acct=a∧x.instr=i then (if q=0 then r else ⟨a,i,q⟩::r)
   else if a<x.acct∨a=x.acct∧i<x.instr then (if q=0 then x::r else ⟨a,i,q⟩::x::r)
   else x::putLoc a i q r
theorem no_err {e:Int} (h:(Adm.no e).err=0):e=0:=h
theorem getD_at {α:Type} (l:List α) (n:Nat) (d:α) (h:n<l.length):l[n]?=some (l.getD n d):=by
 rw[List.getD_eq_getElem?_getD,List.getElem?_eq_getElem h];rfl
theorem all_set {α:Type} {l:List α} {k:Nat} {x:α} {P:Nat→α→Prop} (h:∀ n u,l[n]?=some u→P n u) (hx:P k x):∀ n u,(l.set k x)[n]?=some u→P n u:=by
 intro n u hn
 rw[List.getElem?_set] at hn
 by_cases e:k=n
 ·subst e
  rw[if_pos rfl] at hn
  by_cases e2:k<l.length
  ·rw[if_pos e2] at hn;cases hn;exact hx
  ·rw[if_neg e2] at hn;cases hn
 ·rw[if_neg e] at hn;exact h n u hn
theorem all_snoc {α:Type} {l:List α} {x:α} {P:Nat→α→Prop} (h:∀ n u,l[n]?=some u→P n u) (hx:P l.length x):∀ n u,(l++[x])[n]?=some u→P n u:=by
 intro n u hn
 rcases Nat.lt_trichotomy n l.length with e|e|e
 ·rw[List.getElem?_append_left e] at hn;exact h n u hn
 ·subst e;simp at hn;subst hn;exact hx
 ·rw[List.getElem?_eq_none (by simp;omega)] at hn;cases hn
theorem map_at {α β:Type} {f:α→β} {l l':List α} (h:l.map f=l'.map f) {n:Nat} {u:α} (hn:l[n]?=some u):∃ u',l'[n]?=some u'∧f u'=f u:=by
 have e:(l.map f)[n]?=some (f u):=by rw[List.getElem?_map,hn];rfl
 rw[h,List.getElem?_map] at e
 cases hl:l'[n]? with
 | none=>rw[hl] at e;cases e
 | some u'=>rw[hl] at e;exact⟨u',rfl,by simpa using e⟩
theorem map_set_eq {α β:Type} (f:α→β) (l:List α) (k:Nat) (d x:α) (hk:k<l.length) (h:f x=f (l.getD k d)):(l.set k x).map f=l.map f:=by
 apply List.ext_getElem?
 intro n
 rw[List.getElem?_map,List.getElem?_map,List.getElem?_set]
 by_cases e:k=n
 ·subst e;rw[if_pos rfl,if_pos hk,getD_at l k d hk];simp[h]
 ·rw[if_neg e]
theorem priceS_good {L:Led} (h:L.Good) {u p v:Int} (he:(priceS L u p v).err=0):(priceS L u p v).led.Good:=by
 unfold priceS at he ⊢
 by_cases h1:0≤u∧u<L.unders.length
 ·rw[if_pos h1] at he ⊢
  by_cases h2:Und.Ok { L.und u with price:=p,vol:=v } L.curs.length
  ·rw[if_pos h2]
   have hm:(L.unders.set u.toNat { L.und u with price:=p,vol:=v }).map (·.name)=L.unders.map (·.name):=map_set_eq _ _ _ _ _ (by omega) rfl
   have T:=h.things
   refine⟨h.d0,h.d1,⟨T.c0,T.c1,by simpa using T.u1,T.i1,T.curs,all_set T.unders h2,?_,by simpa using T.instrs⟩,⟨h.accounts.tree,h.accounts.accts⟩,h.poss,h.orders,h.locs,h.ids⟩
   intro n k a b hk ha hb
   obtain⟨a',ha',ea⟩:=map_at hm ha
   obtain⟨b',hb',eb⟩:=map_at hm hb
   have:=T.names n k a' b' hk ha' hb'
   rw[ea,eb] at this
   exact this
  ·rw[if_neg h2] at he;exact absurd (no_err he) (by decide)
 ·rw[if_neg h1] at he;exact absurd (no_err he) (by decide)
theorem PossOk.more {ps:List Pos} {a i a' i':Nat} (h:PossOk ps a i) (ha:a≤a') (hi:i≤i'):PossOk ps a' i' :=
 ⟨h.len,fun p hp=>by obtain⟨x1,x2,x3,x4,x5⟩:=h.all p hp;exact⟨x1,by omega,x3,by omega,x5⟩,h.rise⟩
theorem OrdersOk.more {ps:List Ord} {a i a' i':Nat} (h:OrdersOk ps a i) (ha:a≤a') (hi:i≤i'):OrdersOk ps a' i' :=
 ⟨h.len,fun p hp=>by obtain⟨x1,x2,x3,x4,x5,x6,x7⟩:=h.all p hp;exact⟨x1,by omega,x3,x4,x5,by omega,x7⟩,h.rise⟩
theorem chkA_tree {ps:List Int} (h:chkA ps=0):TreeOk ps:=by
 unfold chkA at h
 split at h
 ·cases h
 ·split at h
  ·cases h
  ·split at h
   ·assumption
   ·cases h
theorem accountS_good {L:Led} (h:L.Good) {p:Int} (he:(accountS L p).err=0):(accountS L p).led.Good:=by
 unfold accountS at he ⊢
 by_cases h1:chkA (L.parents++[p])=0
 ·rw[if_pos h1]
  have h2:2≤L.accts.length:=by simpa using h.accounts.tree.lo
  refine⟨h.d0,h.d1,⟨h.things.c0,h.things.c1,h.things.u1,h.things.i1,h.things.curs,h.things.unders,h.things.names,h.things.instrs⟩,⟨by simpa [Led.parents] using chkA_tree h1,all_snoc h.accounts.accts ?_⟩,h.poss.more (by simp) (Nat.le_refl _),h.orders.more (by simp) (Nat.le_refl _),?_,?_⟩
  ·refine⟨by simp,Int.le_refl _,by show (0:Int)≤1099511627776;decide,fun hv=>by omega,fun x hx=>?_⟩
   rw[(List.mem_replicate.1 hx).2];decide
  ·exact⟨h.locs.len,h.locs.locn,h.locs.avail,fun x hx=>by obtain⟨x1,x2,x3⟩:=h.locs.all x hx;exact⟨x1,by simp;omega,x3⟩,h.locs.rise⟩
  ·intro o ho a ha
   have:=(h.orders.all o ho).2.1
   have:=(h.orders.all o ho).1
   rw[List.getElem?_append_left (by omega)] at ha
   exact h.ids o ho a ha
 ·rw[if_neg h1] at he;exact absurd he h1
theorem underS_good {L:Led} (h:L.Good) {u:Und} (he:(underS L u).err=0):(underS L u).led.Good:=by
 unfold underS at he ⊢
 by_cases h1:L.unders.length<6
 ·rw[if_pos h1] at he ⊢
  by_cases h2:nameB u.name=true∧∀ x∈L.unders,x.name≠u.name
  ·rw[if_pos h2] at he ⊢
   by_cases h3:u.Ok L.curs.length
   ·rw[if_pos h3]
    have T:=h.things
    refine⟨h.d0,h.d1,⟨T.c0,T.c1,by simp;omega,T.i1,T.curs,all_snoc T.unders h3,?_,?_⟩,⟨h.accounts.tree,h.accounts.accts⟩,h.poss,h.orders,h.locs,h.ids⟩
    ·intro n k a b hk ha hb
     have hn:n<L.unders.length+1:=by have:=(List.getElem?_eq_some_iff.1 ha).1;simpa using this
     rw[List.getElem?_append_left (by omega)] at hb
     rcases Nat.lt_or_ge n L.unders.length with e|e
     ·rw[List.getElem?_append_left e] at ha
      exact T.names n k a b hk ha hb
     ·have:n=L.unders.length:=by omega
      subst this
      simp at ha
      subst ha
      exact h2.2 b (List.mem_of_getElem? hb)
    ·intro i hi
     obtain⟨x1,x2,x3⟩:=T.instrs i hi
     exact⟨x1,by simp;omega,x3⟩
   ·rw[if_neg h3] at he;exact absurd (no_err he) (by decide)
  ·rw[if_neg h2] at he;exact absurd (no_err he) (by decide)
 ·rw[if_neg h1] at he;exact absurd (no_err he) (by decide)
theorem rateS_good {L:Led} (h:L.Good) {c r k:Int} (he:(rateS L c r k).err=0):(rateS L c r k).led.Good:=by
 unfold rateS at he ⊢
 by_cases h1:0≤c∧c≤L.curs.length∧Cur.Ok ⟨r,k⟩ c.toNat
 ·rw[if_pos h1] at he ⊢
  have T:=h.things
  have c0:=T.c0
  by_cases h2:c<L.curs.length
  ·rw[if_pos h2]
   refine⟨h.d0,h.d1,⟨by simpa using T.c0,by simpa using T.c1,T.u1,T.i1,all_set T.curs h1.2.2,by simpa using T.unders,T.names,T.instrs⟩,⟨h.accounts.tree,by simpa using h.accounts.accts⟩,h.poss,h.orders,h.locs,h.ids⟩
  ·rw[if_neg h2] at he ⊢
   by_cases h3:c<4
   ·rw[if_pos h3]
    have hc:c.toNat=L.curs.length:=by omega
    have hp:(L.accts.map fun a=>{ a with cash:=a.cash++[0] }).map (·.parent)=L.accts.map (·.parent):=by rw[List.map_map];rfl
    refine⟨h.d0,h.d1,⟨by simp,by simp;omega,T.u1,T.i1,all_snoc T.curs (hc▸h1.2.2),?_,T.names,T.instrs⟩,⟨by rw[hp];exact h.accounts.tree,?_⟩,by simpa using h.poss,by simpa using h.orders,by simpa using h.locs,?_⟩
    ·intro n u hu
     obtain⟨x1,x2,x3,x4⟩:=T.unders n u hu
     exact⟨x1,x2,by simp;omega,x4⟩
    ·intro v a ha
     simp only[List.getElem?_map] at ha
     cases hb:L.accts[v]? with
     | none=>rw[hb] at ha;cases ha
     | some b =>
       rw[hb] at ha
       simp at ha
       subst ha
       obtain⟨o1,o2,o3,o4,o5⟩:=h.accounts.accts v b hb
       refine⟨by simp[o1],o2,o3,o4,?_⟩
       intro x hx
       rcases List.mem_append.1 hx with hx|hx
       ·exact o5 x hx
       ·rw[List.mem_singleton.1 hx];decide
    ·intro o ho a ha
     simp only[List.getElem?_map] at ha
     cases hb:L.accts[o.acct.toNat]? with
     | none=>rw[hb] at ha;cases ha
     | some b =>
       rw[hb] at ha
       simp at ha
       subst ha
       exact h.ids o ho b hb
   ·rw[if_neg h3] at he;exact absurd (no_err he) (by decide)
 ·rw[if_neg h1] at he;exact absurd (no_err he) (by decide)
theorem markA_ok {L:Led} (h:L.Good) {i:Ins} (hi:i.noMark.Ok L.unders.length):(markA L i).2=0∧0≤(markA L i).1∧(markA L i).1≤2000000000000000:=by
 have hu:=h.und_ok (n:=i.under) hi.1 hi.2.1
 obtain⟨_,_,_,p0,p1,v0,v1⟩:=hu
 obtain⟨x,e,a,b⟩:=unitA_ok hi (L.und i.under).price (L.und i.under).vol L.day (by omega) (by omega) v0 (by omega) h.d0 h.d1
 unfold markA nowA
 rw[if_pos ⟨⟨by omega,p1⟩,v0,v1⟩,e]
 exact⟨rfl,a,b⟩
theorem instrS_good {L:Led} (h:L.Good) {i:Ins} (he:(instrS L i).err=0):(instrS L i).led.Good:=by
 unfold instrS at he ⊢
 by_cases h1:L.instrs.length<12
 ·rw[if_pos h1] at he ⊢
  by_cases h2:i.noMark.Ok L.unders.length
  ·rw[if_pos h2] at he ⊢
   by_cases h3:i.expiry=0∨L.day≤i.expiry
   ·rw[if_pos h3] at he ⊢
    obtain⟨m1,m2,m3⟩:=markA_ok h h2
    rw[if_pos m1] at he ⊢
    by_cases h4:(markA L i).1≤100000000000000
    ·rw[if_pos h4]
     have T:=h.things
     refine⟨h.d0,h.d1,⟨T.c0,T.c1,T.u1,by simp;omega,T.curs,T.unders,T.names,?_⟩,⟨h.accounts.tree,h.accounts.accts⟩,h.poss.more (Nat.le_refl _) (by simp),h.orders.more (Nat.le_refl _) (by simp),⟨by simp[h.locs.len],h.locs.locn,?_,?_,h.locs.rise⟩,h.ids⟩
     ·intro x hx
      rcases List.mem_append.1 hx with hx|hx
      ·exact T.instrs x hx
      ·rw[List.mem_singleton.1 hx]
       obtain⟨x1,x2,x3,x4,_,_,x5⟩:=h2
       exact⟨x1,x2,x3,x4,m2,h4,x5⟩
     ·intro q hq
      rcases List.mem_append.1 hq with hq|hq
      ·exact h.locs.avail q hq
      ·rw[List.mem_singleton.1 hq];decide
     ·intro x hx
      obtain⟨x1,x2,x3,x4,x5⟩:=h.locs.all x hx
      exact⟨x1,x2,x3,by simp;omega,x5⟩
    ·rw[if_neg h4] at he;exact absurd (no_err he) (by decide)
   ·rw[if_neg h3] at he;exact absurd (no_err he) (by decide)
  ·rw[if_neg h2] at he;exact absurd (no_err he) (by decide)
 ·rw[if_neg h1] at he;exact absurd (no_err he) (by decide)
end Go.Bw
namespace Go.Bw
open Classical
set_option linter.unusedVariables false
set_option linter.unusedSimpArgs false
end Go.Bw
namespace Go.Bw
open Classical
set_option linter.unusedVariables false
set_option linter.unusedSimpArgs false
structure Grows (l m:Led):Prop where
 day:m.day=l.day
 accts:m.accts=l.accts
 curs:m.curs=l.curs
 poss:m.poss=l.poss
 orders:m.orders=l.orders
 ins:∀ n:Int,0≤n→n<l.instrs.length→m.ins n=l.ins n
 und:∀ n:Int,0≤n→n<l.unders.length→m.und n=l.und n
theorem Grows.hit {l m:Led} (h:Grows l m) {i:Int} (h0:0≤i) (h1:i<l.instrs.length) (a:Nat) (u w:Int):m.hit a u i w=l.hit a u i w:=by
 unfold Led.hit Led.parents;rw[h.ins i h0 h1,h.accts]
theorem Grows.gain {l m:Led} (h:Grows l m) (hg:l.Good) {i:Int} (h0:0≤i) (h1:i<l.instrs.length) (q:Int) (s:Nat) (f:Int):gainO m i q s f=gainO l i q s f:=by
 have ok:=hg.ins_ok h0 h1
 unfold gainO Led.unit;rw[h.ins i h0 h1,h.und _ ok.1 ok.2.1,h.day]
theorem Grows.pos {l m:Led} (h:Grows l m) (hg:l.Good) (a:Nat) (u:Int) (s:Nat):∀ (ps:List Pos) (x:Int),(∀ p∈ps,0≤p.instr∧p.instr<l.instrs.length)→lossPos m a u s ps x=lossPos l a u s ps x
 | [],x,_=>rfl
 | p::r,x,hp=>by
   obtain⟨h0,h1⟩:=hp p (by simp)
   unfold lossPos
   rw[h.hit h0 h1,h.gain hg h0 h1,h.ins _ h0 h1]
   simp only[h.pos hg a u s r _ (fun p hp'=>hp p (List.mem_cons_of_mem _ hp'))]
theorem Grows.ord {l m:Led} (h:Grows l m) (hg:l.Good) (a:Nat) (u:Int) (s:Nat):∀ (ps:List Ord) (x:Int),(∀ p∈ps,0≤p.instr∧p.instr<l.instrs.length)→lossOrd m a u s ps x=lossOrd l a u s ps x
 | [],x,_=>rfl
 | p::r,x,hp=>by
   obtain⟨h0,h1⟩:=hp p (by simp)
   unfold lossOrd
   rw[h.hit h0 h1,h.gain hg h0 h1]
   simp only[h.ord hg a u s r _ (fun p hp'=>hp p (List.mem_cons_of_mem _ hp'))]
theorem Grows.loss {l m:Led} (h:Grows l m) (hg:l.Good) (a:Nat) (u:Int) (s:Nat):lossO m a u s=lossO l a u s:=by
 unfold lossO
 rw[h.poss,h.orders,h.pos hg a u s _ _ (fun p hp=>⟨(hg.poss.all p hp).2.2.1,(hg.poss.all p hp).2.2.2.1⟩)]
 congr 1
 funext x
 exact h.ord hg a u s _ _ (fun p hp=>⟨(hg.orders.all p hp).2.2.2.2.1,(hg.orders.all p hp).2.2.2.2.2.1⟩)
theorem Grows.worst {l m:Led} (h:Grows l m) (hg:l.Good) (a:Nat) (u:Int):∀ n,worstO m a u n=worstO l a u n
 | 0=>rfl
 | n+1=>by unfold worstO;rw[h.worst hg a u n,h.loss hg]
theorem Grows.need {l m:Led} (h:Grows l m) (hg:l.Good) (a:Nat):∀ (us:List Und) (n:Nat) (x:Int),needGo m a n us x=needGo l a n us x
 | [],n,x=>rfl
 | u::r,n,x=>by
   have e:m.cur u.cur=l.cur u.cur:=by unfold Led.cur;rw[h.curs]
   unfold needGo
   rw[h.worst hg,e]
   simp only[h.need hg a r]
end Go.Bw
namespace Go.Bw
open Classical
set_option linter.unusedVariables false
set_option linter.unusedSimpArgs false
end Go.Bw
namespace Go.Bw
open Classical
set_option linter.unusedVariables false
set_option linter.unusedSimpArgs false
end Go.Bw
namespace Go.Bw
open Classical
set_option linter.unusedVariables false
set_option linter.unusedSimpArgs false
theorem Led.Good.falls {l:Led} (h:l.Good):Falls l.parents l.parents.length:=h.accounts.tree.falls _
end Go.Bw
namespace Go.Bw
open Classical
set_option linter.unusedVariables false
set_option linter.unusedSimpArgs false
end Go.Bw
namespace Go.Bw
open Classical
set_option linter.unusedVariables false
set_option linter.unusedSimpArgs false
end Go.Bw
namespace Go.Bw
open Classical
set_option linter.unusedVariables false
set_option linter.unusedSimpArgs false
end Go.Bw
namespace Go.Bw
open Classical
set_option linter.unusedVariables false
set_option linter.unusedSimpArgs false
end Go.Bw
