/- Joined: AdmP, AdmQ, AdmR, AdmS, AdmT, AdmU, AdmV, AdmW, LocP, LocD. -/
import Derived.Test.YtnkpdfjnjmmleaaGreatDoorGb
set_option linter.unusedVariables false
set_option linter.unusedSimpArgs false
namespace Go.Bw
open Classical
structure Adm where
 led:Led
 num:Int
 err:Int
def Adm.no (e:Int):Adm:=⟨⟨0,[],[],[],[],[],[],[],[]⟩,0,e⟩
def Led.acc (l:Led) (n:Int):Acc:=l.accts.getD n.toNat ⟨-1,[],false,0⟩
noncomputable def chkA (ps:List Int):Int:=if ps.length<2 then 33 else if 16<ps.length then 40 else if TreeOk ps then 0 else 33
noncomputable def accountS (L:Led) (p:Int):Adm :=
 if chkA (L.parents++[p])=0 then ⟨{ L with accts:=L.accts++[⟨p,List.replicate L.curs.length 0,false,0⟩] },L.accts.length,0⟩ else .no (chkA (L.parents++[p]))
noncomputable def underS (L:Led) (u:Und):Adm :=
 if L.unders.length<6 then
  if nameB u.name=true /\ ∀ x∈L.unders,x.name≠u.name then
   if u.Ok L.curs.length then ⟨{ L with unders:=L.unders++[u] },L.unders.length,0⟩ else .no 31
  else .no 42
 else .no 40
def Ins.noMark (i:Ins):Ins:={ i with mark:=0 }
def nowA (i:Ins) (u:Und) (day:Int):Int×Int :=
 if (0 <= u.price /\ u.price <= 1000000000000) /\ (0 <= u.vol /\ u.vol <= 50000) then unitA i u.price u.vol day else (0,1)
def markA (L:Led) (i:Ins):Int×Int:=nowA i.noMark (L.und i.under) L.day
noncomputable def instrS (L:Led) (i:Ins):Adm :=
 if L.instrs.length<12 then
  if i.noMark.Ok L.unders.length then
   if i.expiry=0 \/ L.day <= i.expiry then
    if (markA L i).2=0 then
     if (markA L i).1 <= 100000000000000 then ⟨{ L with instrs:=L.instrs++[{ i with mark:=(markA L i).1 }],avail:=L.avail++[0] },L.instrs.length,0⟩ else .no 4
    else .no (markA L i).2
   else .no 41
  else .no 32
 else .no 40
def supplyA (avail:List Int) (i q:Int):List Int×Int :=
 if 0 <= i /\ i<avail.length then
  if (-1000000000 <= q /\ q <= 1000000000) /\ 0 <= avail.getD i.toNat 0+q /\ avail.getD i.toNat 0+q <= 1000000000 then (avail.set i.toNat (avail.getD i.toNat 0+q),0) else ([],36)
 else ([],32)
noncomputable def supplyS (L:Led) (i q:Int):Adm :=
 if (supplyA L.avail i q).2=0 then ⟨{ L with avail:=(supplyA L.avail i q).1 },(supplyA L.avail i q).1.getD i.toNat 0,0⟩ else .no (supplyA L.avail i q).2
def heldL:List Pos -> Int -> Int -> Int
 | [],_,_=>0
 | x::r,a,i=>if x.acct=a /\ x.instr=i then x.qty else heldL r a i
def putLoc (a i q:Int):List Pos -> List Pos
 | []=>if q=0 then [] else [⟨a,i,q⟩]
 | x::r=>if x.acct=a /\ x.instr=i then (if q=0 then r else ⟨a,i,q⟩::r)
   else if a<x.acct \/ a=x.acct /\ i<x.instr then (if q=0 then x::r else ⟨a,i,q⟩::x::r)
   else x::putLoc a i q r
def hasLoc (locs:List Pos) (a i:Int):Bool:=locs.any fun x=>decide (x.acct=a /\ x.instr=i)
def reserveA (avail:List Int) (locs:List Pos) (a i q:Int):List Int×List Pos×Int :=
 if 0 <= i /\ i<avail.length then
  if (-1000000000 <= q /\ q <= 1000000000) /\ 0 <= heldL locs a i+q /\ heldL locs a i+q <= 1000000000 then
   if q <= avail.getD i.toNat 0 then
    if avail.getD i.toNat 0 - q <= 1000000000 then
     if hasLoc locs a i=false /\ heldL locs a i+q≠0 /\ 32 <= locs.length then ([],[],40)
     else (avail.set i.toNat (avail.getD i.toNat 0 - q),putLoc a i (heldL locs a i+q) locs,0)
    else ([],[],36)
   else ([],[],39)
  else ([],[],36)
 else ([],[],32)
noncomputable def reserveS (L:Led) (a i q:Int):Adm :=
 if 2 <= a /\ a<L.accts.length then
  if (reserveA L.avail L.locs a i q).2.2=0 then ⟨{ L with avail:=(reserveA L.avail L.locs a i q).1,locs:=(reserveA L.avail L.locs a i q).2.1 },heldL (reserveA L.avail L.locs a i q).2.1 a i,0⟩
  else .no (reserveA L.avail L.locs a i q).2.2
 else .no 33
theorem no_err {e:Int} (h:(Adm.no e).err=0):e=0:=h
theorem all_snoc {α:Type} {l:List α} {x:α} {P:Nat -> α -> Prop} (h:∀ n u,l[n]?=some u -> P n u) (hx:P l.length x):∀ n u,(l++[x])[n]?=some u -> P n u:=by
 intro n u hn
 rcases Nat.lt_trichotomy n l.length with e|e|e
 ·rw[List.getElem?_append_left e] at hn;exact h n u hn
 ·subst e;simp at hn;subst hn;exact hx
 ·rw[List.getElem?_eq_none (by simp;omega)] at hn;cases hn
theorem PossOk.more {ps:List Pos} {a i a' i':Nat} (h:PossOk ps a i) (ha:a <= a') (hi:i <= i'):PossOk ps a' i' :=
 ⟨h.len,fun p hp=>by obtain⟨x1,x2,x3,x4,x5⟩:=h.all p hp;exact⟨x1,by omega,x3,by omega,x5⟩,h.rise⟩
theorem OrdersOk.more {ps:List Ord} {a i a' i':Nat} (h:OrdersOk ps a i) (ha:a <= a') (hi:i <= i'):OrdersOk ps a' i' :=
 ⟨h.len,fun p hp=>by obtain⟨x1,x2,x3,x4,x5,x6,x7⟩:=h.all p hp;exact⟨x1,by omega,x3,x4,x5,by omega,x7⟩,h.rise⟩
theorem chkA_tree {ps:List Int} (h:chkA ps=0):TreeOk ps:=by
 unfold chkA at h
 split at h
 ·cases h
 ·split at h
  ·cases h
  ·split at h
   ·assumption
   ·cases h
theorem accountS_good {L:Led} (h:L.Good) {p:Int} (he:(accountS L p).err=0):(accountS L p).led.Good:=by
 unfold accountS at he ⊢
 by_cases h1:chkA (L.parents++[p])=0
 ·rw[if_pos h1]
  have h2:2 <= L.accts.length:=by simpa using h.accounts.tree.lo
  refine⟨h.d0,h.d1,⟨h.things.c0,h.things.c1,h.things.u1,h.things.i1,h.things.curs,h.things.unders,h.things.names,h.things.instrs⟩,⟨by simpa [Led.parents] using chkA_tree h1,all_snoc h.accounts.accts ?_⟩,h.poss.more (by simp) (Nat.le_refl _),h.orders.more (by simp) (Nat.le_refl _),?_,?_⟩
  ·refine⟨by simp,Int.le_refl _,by show (0:Int) <= 1099511627776;decide,fun hv=>by omega,fun x hx=>?_⟩
   rw[(List.mem_replicate.1 hx).2];decide
  ·exact⟨h.locs.len,h.locs.locn,h.locs.avail,fun x hx=>by obtain⟨x1,x2,x3⟩:=h.locs.all x hx;exact⟨x1,by simp;omega,x3⟩,h.locs.rise⟩
  ·intro o ho a ha
   have:=(h.orders.all o ho).2.1
   have:=(h.orders.all o ho).1
   rw[List.getElem?_append_left (by omega)] at ha
   exact h.ids o ho a ha
 ·rw[if_neg h1] at he;exact absurd he h1
theorem underS_good {L:Led} (h:L.Good) {u:Und} (he:(underS L u).err=0):(underS L u).led.Good:=by
 unfold underS at he ⊢
 by_cases h1:L.unders.length<6
 ·rw[if_pos h1] at he ⊢
  by_cases h2:nameB u.name=true /\ ∀ x∈L.unders,x.name≠u.name
  ·rw[if_pos h2] at he ⊢
   by_cases h3:u.Ok L.curs.length
   ·rw[if_pos h3]
    have T:=h.things
    refine⟨h.d0,h.d1,⟨T.c0,T.c1,by simp;omega,T.i1,T.curs,all_snoc T.unders h3,?_,?_⟩,⟨h.accounts.tree,h.accounts.accts⟩,h.poss,h.orders,h.locs,h.ids⟩
    ·intro n k a b hk ha hb
     have hn:n<L.unders.length+1:=by have:=(List.getElem?_eq_some_iff.1 ha).1;simpa using this
     rw[List.getElem?_append_left (by omega)] at hb
     rcases Nat.lt_or_ge n L.unders.length with e|e
     ·rw[List.getElem?_append_left e] at ha
      exact T.names n k a b hk ha hb
     ·have:n=L.unders.length:=by omega
      subst this
      simp at ha
      subst ha
      exact h2.2 b (List.mem_of_getElem? hb)
    ·intro i hi
     obtain⟨x1,x2,x3⟩:=T.instrs i hi
     exact⟨x1,by simp;omega,x3⟩
   ·rw[if_neg h3] at he;exact absurd (no_err he) (by decide)
  ·rw[if_neg h2] at he;exact absurd (no_err he) (by decide)
 ·rw[if_neg h1] at he;exact absurd (no_err he) (by decide)
theorem supplyA_ok {avail:List Int} {i q:Int} (h:(supplyA avail i q).2=0):0 <= i /\ i<avail.length /\ 0 <= avail.getD i.toNat 0+q /\ avail.getD i.toNat 0+q <= 1000000000 /\ (supplyA avail i q).1=avail.set i.toNat (avail.getD i.toNat 0+q):=by
 unfold supplyA at h ⊢
 split at h
 ·rename_i h1
  split at h
  ·rename_i h2
   rw[if_pos h1,if_pos h2]
   exact⟨h1.1,h1.2,h2.2.1,h2.2.2,rfl⟩
  ·cases h
 ·cases h
theorem supplyS_good {L:Led} (h:L.Good) {i q:Int} (he:(supplyS L i q).err=0):(supplyS L i q).led.Good:=by
 unfold supplyS at he ⊢
 by_cases h1:(supplyA L.avail i q).2=0
 ·rw[if_pos h1]
  obtain⟨a1,a2,a3,a4,e⟩:=supplyA_ok h1
  rw[e]
  refine⟨h.d0,h.d1,⟨h.things.c0,h.things.c1,h.things.u1,h.things.i1,h.things.curs,h.things.unders,h.things.names,h.things.instrs⟩,⟨h.accounts.tree,h.accounts.accts⟩,h.poss,h.orders,⟨by simpa using h.locs.len,h.locs.locn,?_,h.locs.all,h.locs.rise⟩,h.ids⟩
  intro y hy
  rcases List.mem_or_eq_of_mem_set hy with hy|hy
  ·exact h.locs.avail y hy
  ·rw[hy];exact⟨a3,a4⟩
 ·rw[if_neg h1] at he;exact absurd he h1
theorem markA_ok {L:Led} (h:L.Good) {i:Ins} (hi:i.noMark.Ok L.unders.length):(markA L i).2=0 /\ 0 <= (markA L i).1 /\ (markA L i).1 <= 2000000000000000:=by
 have hu:=h.und_ok (n:=i.under) hi.1 hi.2.1
 obtain⟨_,_,_,p0,p1,v0,v1⟩:=hu
 obtain⟨x,e,a,b⟩:=unitA_ok hi (L.und i.under).price (L.und i.under).vol L.day (by omega) (by omega) v0 (by omega) h.d0 h.d1
 unfold markA nowA
 rw[if_pos ⟨⟨by omega,p1⟩,v0,v1⟩,e]
 exact⟨rfl,a,b⟩
theorem instrS_good {L:Led} (h:L.Good) {i:Ins} (he:(instrS L i).err=0):(instrS L i).led.Good:=by
 unfold instrS at he ⊢
 by_cases h1:L.instrs.length<12
 ·rw[if_pos h1] at he ⊢
  by_cases h2:i.noMark.Ok L.unders.length
  ·rw[if_pos h2] at he ⊢
   by_cases h3:i.expiry=0 \/ L.day <= i.expiry
   ·rw[if_pos h3] at he ⊢
    obtain⟨m1,m2,m3⟩:=markA_ok h h2
    rw[if_pos m1] at he ⊢
    by_cases h4:(markA L i).1 <= 100000000000000
    ·rw[if_pos h4]
     have T:=h.things
     refine⟨h.d0,h.d1,⟨T.c0,T.c1,T.u1,by simp;omega,T.curs,T.unders,T.names,?_⟩,⟨h.accounts.tree,h.accounts.accts⟩,h.poss.more (Nat.le_refl _) (by simp),h.orders.more (Nat.le_refl _) (by simp),⟨by simp[h.locs.len],h.locs.locn,?_,?_,h.locs.rise⟩,h.ids⟩
     ·intro x hx
      rcases List.mem_append.1 hx with hx|hx
      ·exact T.instrs x hx
      ·rw[List.mem_singleton.1 hx]
       obtain⟨x1,x2,x3,x4,_,_,x5⟩:=h2
       exact⟨x1,x2,x3,x4,m2,h4,x5⟩
     ·intro q hq
      rcases List.mem_append.1 hq with hq|hq
      ·exact h.locs.avail q hq
      ·rw[List.mem_singleton.1 hq];decide
     ·intro x hx
      obtain⟨x1,x2,x3,x4,x5⟩:=h.locs.all x hx
      exact⟨x1,x2,x3,by simp;omega,x5⟩
    ·rw[if_neg h4] at he;exact absurd (no_err he) (by decide)
   ·rw[if_neg h3] at he;exact absurd (no_err he) (by decide)
  ·rw[if_neg h2] at he;exact absurd (no_err he) (by decide)
 ·rw[if_neg h1] at he;exact absurd (no_err he) (by decide)
theorem putLoc_mem {a i q:Int}:∀ {l:List Pos} {y:Pos},y∈putLoc a i q l -> y∈l \/ (q≠0 /\ y=⟨a,i,q⟩)
 | [],y,h=>by
   unfold putLoc at h
   by_cases hq:q=0
   ·rw[if_pos hq] at h;exact absurd h (by simp)
   ·rw[if_neg hq] at h;exact Or.inr ⟨hq,by simpa using h⟩
 | x::r,y,h=>by
   unfold putLoc at h
   by_cases h1:x.acct=a /\ x.instr=i
   ·rw[if_pos h1] at h
    by_cases hq:q=0
    ·rw[if_pos hq] at h;exact Or.inl (List.mem_cons_of_mem _ h)
    ·rw[if_neg hq] at h
     rcases List.mem_cons.1 h with h|h
     ·exact Or.inr ⟨hq,h⟩
     ·exact Or.inl (List.mem_cons_of_mem _ h)
   ·rw[if_neg h1] at h
    by_cases h2:a<x.acct \/ a=x.acct /\ i<x.instr
    ·rw[if_pos h2] at h
     by_cases hq:q=0
     ·rw[if_pos hq] at h;exact Or.inl h
     ·rw[if_neg hq] at h
      rcases List.mem_cons.1 h with h|h
      ·exact Or.inr ⟨hq,h⟩
      ·exact Or.inl h
    ·rw[if_neg h2] at h
     rcases List.mem_cons.1 h with h|h
     ·exact Or.inl (by rw[h];exact List.mem_cons_self ..)
     ·rcases putLoc_mem h with h|h
      ·exact Or.inl (List.mem_cons_of_mem _ h)
      ·exact Or.inr h
theorem putLoc_pair {a i q:Int}:∀ {l:List Pos},l.Pairwise Pos.Lt -> (putLoc a i q l).Pairwise Pos.Lt
 | [],_=>by
   unfold putLoc
   split
   ·exact List.Pairwise.nil
   ·simp
 | x::r,h=>by
   obtain⟨hx,hr⟩:=List.pairwise_cons.1 h
   unfold putLoc
   by_cases h1:x.acct=a /\ x.instr=i
   ·rw[if_pos h1]
    split
    ·exact hr
    ·refine List.pairwise_cons.2 ⟨fun y hy=>?_,hr⟩
     have:=hx y hy
     unfold Pos.Lt at this ⊢
     simp only
     omega
   ·rw[if_neg h1]
    by_cases h2:a<x.acct \/ a=x.acct /\ i<x.instr
    ·rw[if_pos h2]
     split
     ·exact h
     ·have h0:Pos.Lt ⟨a,i,q⟩ x:=h2
      refine List.pairwise_cons.2 ⟨fun y hy=>?_,h⟩
      rcases List.mem_cons.1 hy with hy|hy
      ·rw[hy];exact h0
      ·exact Pos.Lt.trans _ _ _ h0 (hx y hy)
    ·rw[if_neg h2]
     refine List.pairwise_cons.2 ⟨fun y hy=>?_,putLoc_pair hr⟩
     rcases putLoc_mem hy with hy|⟨_,hy⟩
     ·exact hx y hy
     ·rw[hy];unfold Pos.Lt;simp only;omega
theorem putLoc_len {a i q:Int}:∀ (l:List Pos),(putLoc a i q l).length <= l.length+1 /\ ((q=0 \/ (hasLoc l a i=true /\ l.Pairwise Pos.Lt)) -> (putLoc a i q l).length <= l.length)
 | []=>by
   unfold putLoc
   refine⟨by split <;> simp,?_⟩
   rintro (h|h)
   ·rw[if_pos h];exact Nat.le_refl _
   ·simp[hasLoc] at h
 | x::r=>by
   have ih:=putLoc_len (a:=a) (i:=i) (q:=q) r
   unfold putLoc
   by_cases h1:x.acct=a /\ x.instr=i
   ·rw[if_pos h1]
    refine⟨by split <;> simp <;> omega,fun _=>by split <;> simp⟩
   ·rw[if_neg h1]
    by_cases h2:a<x.acct \/ a=x.acct /\ i<x.instr
    ·rw[if_pos h2]
     refine⟨by split <;> simp,?_⟩
     rintro (h|⟨h,hp⟩)
     ·rw[if_pos h];exact Nat.le_refl _
     ·exfalso
      unfold hasLoc at h
      obtain⟨y,hy,e⟩:=List.any_eq_true.1 h
      have e:=of_decide_eq_true e
      rcases List.mem_cons.1 hy with hy|hy
      ·rw[hy] at e;exact h1 e
      ·have:=(List.pairwise_cons.1 hp).1 y hy
       unfold Pos.Lt at this
       omega
    ·rw[if_neg h2]
     refine⟨by simp;omega,?_⟩
     intro h
     have:(putLoc a i q r).length <= r.length:=by
      apply ih.2
      rcases h with h|⟨h,hp⟩
      ·exact Or.inl h
      ·refine Or.inr ⟨?_,(List.pairwise_cons.1 hp).2⟩
       unfold hasLoc at h ⊢
       rw[List.any_cons,decide_eq_false h1,Bool.false_or] at h
       exact h
     simpa using this
theorem reserveA_ok {avail:List Int} {locs:List Pos} {a i q:Int} (h:(reserveA avail locs a i q).2.2=0) :
 (0 <= i /\ i<avail.length) /\ (0 <= heldL locs a i+q /\ heldL locs a i+q <= 1000000000) /\ (0 <= avail.getD i.toNat 0 - q /\ avail.getD i.toNat 0 - q <= 1000000000) /\
 ¬ (hasLoc locs a i=false /\ heldL locs a i+q≠0 /\ 32 <= locs.length) /\ reserveA avail locs a i q=(avail.set i.toNat (avail.getD i.toNat 0 - q),putLoc a i (heldL locs a i+q) locs,0):=by
 unfold reserveA at h ⊢
 by_cases h1:0 <= i /\ i<avail.length
 ·rw[if_pos h1] at h ⊢
  by_cases h2:(-1000000000 <= q /\ q <= 1000000000) /\ 0 <= heldL locs a i+q /\ heldL locs a i+q <= 1000000000
  ·rw[if_pos h2] at h ⊢
   by_cases h3:q <= avail.getD i.toNat 0
   ·rw[if_pos h3] at h ⊢
    by_cases h4:avail.getD i.toNat 0 - q <= 1000000000
    ·rw[if_pos h4] at h ⊢
     by_cases h5:hasLoc locs a i=false /\ heldL locs a i+q≠0 /\ 32 <= locs.length
     ·rw[if_pos h5] at h;exact absurd h (by decide)
     ·rw[if_neg h5];exact⟨h1,h2.2,⟨by omega,h4⟩,h5,rfl⟩
    ·rw[if_neg h4] at h;exact absurd h (by decide)
   ·rw[if_neg h3] at h;exact absurd h (by decide)
  ·rw[if_neg h2] at h;exact absurd h (by decide)
 ·rw[if_neg h1] at h;exact absurd h (by decide)
theorem reserveS_good {L:Led} (h:L.Good) {a i q:Int} (he:(reserveS L a i q).err=0):(reserveS L a i q).led.Good:=by
 unfold reserveS at he ⊢
 by_cases h0:2 <= a /\ a<L.accts.length
 ·rw[if_pos h0] at he ⊢
  by_cases h1:(reserveA L.avail L.locs a i q).2.2=0
  ·rw[if_pos h1]
   obtain⟨a1,a2,a3,a4,e⟩:=reserveA_ok h1
   rw[e]
   have hp:=Rises.pair Pos.Lt.trans h.locs.rise
   have hn:=h.locs.len
   refine⟨h.d0,h.d1,⟨h.things.c0,h.things.c1,h.things.u1,h.things.i1,h.things.curs,h.things.unders,h.things.names,h.things.instrs⟩,⟨h.accounts.tree,h.accounts.accts⟩,h.poss,h.orders,⟨by simpa using h.locs.len,?_,?_,?_,rises_of_pair (putLoc_pair hp)⟩,h.ids⟩
   ·have l1:=putLoc_len (a:=a) (i:=i) (q:=heldL L.locs a i+q) L.locs
    have l2:=h.locs.locn
    show (putLoc a i (heldL L.locs a i+q) L.locs).length <= 32
    by_cases hq:heldL L.locs a i+q=0
    ·have:=l1.2 (Or.inl hq);omega
    ·cases hh:hasLoc L.locs a i with
     | true=>have:=l1.2 (Or.inr ⟨hh,hp⟩);omega
     | false =>
       have:¬ 32 <= L.locs.length:=fun z=>a4 ⟨hh,hq,z⟩
       omega
   ·intro y hy
    rcases List.mem_or_eq_of_mem_set hy with hy|hy
    ·exact h.locs.avail y hy
    ·rw[hy];exact a3
   ·intro x hx
    rcases putLoc_mem hx with hx|⟨hq,hx⟩
    ·exact h.locs.all x hx
    ·rw[hx]
     exact⟨h0.1,h0.2,a1.1,by simp only;omega,by simp only;omega,a2.2⟩
  ·rw[if_neg h1] at he;exact absurd he h1
 ·rw[if_neg h0] at he;exact absurd (no_err he) (by decide)
def keyLt (a i:Int) (x:Pos):Bool:=decide (x.acct<a \/ x.acct=a /\ x.instr<i)
def posOf (a i:Int):List Pos -> Nat
 | []=>0
 | x::r=>if keyLt a i x=true then posOf a i r+1 else 0
theorem posOf_le (a i:Int):∀ l:List Pos,posOf a i l <= l.length
 | []=>Nat.le_refl _
 | x::r=>by
   unfold posOf
   split
   ·have:=posOf_le a i r;simp;omega
   ·exact Nat.zero_le _
theorem posOf_one {a i:Int}:∀ {l:List Pos} {n:Nat},n <= l.length -> (∀ (k:Nat) x,k<n -> l[k]?=some x -> keyLt a i x=true) -> (∀ x,l[n]?=some x -> keyLt a i x=false) -> posOf a i l=n
 | [],n,hn,_,_=>by have:n=0:=by simpa using hn
                   subst this;rfl
 | x::r,0,hn,lo,hi=>by
   unfold posOf
   rw[hi x rfl,if_neg (by decide)]
 | x::r,n+1,hn,lo,hi=>by
   unfold posOf
   rw[lo 0 x (by omega) rfl,if_pos rfl,posOf_one (n:=n) (by simpa using hn) (fun k y hk hy=>lo (k+1) y (by omega) (by simpa using hy)) (fun y hy=>hi y (by simpa using hy))]
def thereL (a i:Int) (l:List Pos):Bool:=match l[posOf a i l]? with|some y=>decide (y.acct=a /\ y.instr=i)|none=>false
theorem putLoc_there {a i q:Int}:∀ {l:List Pos},thereL a i l=true -> putLoc a i q l=if q=0 then l.eraseIdx (posOf a i l) else l.set (posOf a i l) ⟨a,i,q⟩
 | [],h=>by cases h
 | x::r,h=>by
   unfold thereL posOf at h
   unfold putLoc posOf
   by_cases hk:keyLt a i x=true
   ·rw[if_pos hk] at h ⊢
    have hlt:=of_decide_eq_true hk
    rw[if_neg (by omega),if_neg (by omega),putLoc_there (l:=r) (by unfold thereL;simpa using h)]
    by_cases hq:q=0
    ·rw[if_pos hq,if_pos hq];rfl
    ·rw[if_neg hq,if_neg hq];rfl
   ·rw[if_neg hk] at h ⊢
    have he:x.acct=a /\ x.instr=i:=by simpa using h
    rw[if_pos he]
    rfl
theorem putLoc_new {a i q:Int}:∀ {l:List Pos},thereL a i l=false -> putLoc a i q l=if q=0 then l else l.take (posOf a i l)++⟨a,i,q⟩::l.drop (posOf a i l)
 | [],h=>by unfold putLoc posOf;by_cases hq:q=0 <;> simp[hq]
 | x::r,h=>by
   unfold thereL posOf at h
   unfold putLoc posOf
   by_cases hk:keyLt a i x=true
   ·rw[if_pos hk] at h ⊢
    have hlt:=of_decide_eq_true hk
    rw[if_neg (by omega),if_neg (by omega),putLoc_new (l:=r) (by unfold thereL;simpa using h)]
    by_cases hq:q=0
    ·rw[if_pos hq,if_pos hq]
    ·rw[if_neg hq,if_neg hq];rfl
   ·rw[if_neg hk] at h ⊢
    have he:¬ (x.acct=a /\ x.instr=i):=by simpa using h
    have hge:¬ (x.acct<a \/ x.acct=a /\ x.instr<i):=fun hh=>hk (decide_eq_true hh)
    rw[if_neg he,if_pos (by omega)]
    rfl
theorem thereL_has {a i:Int}:∀ {l:List Pos},l.Pairwise Pos.Lt -> thereL a i l=hasLoc l a i
 | [],_=>rfl
 | x::r,h=>by
   obtain⟨hx,hr⟩:=List.pairwise_cons.1 h
   have ih:=thereL_has (a:=a) (i:=i) hr
   by_cases hk:keyLt a i x=true
   ·have hlt:=of_decide_eq_true hk
    have hp:posOf a i (x::r)=posOf a i r+1:=by
     show (if keyLt a i x=true then posOf a i r+1 else 0)=_
     rw[if_pos hk]
    have e:thereL a i (x::r)=thereL a i r:=by unfold thereL;rw[hp,List.getElem?_cons_succ]
    rw[e,ih]
    unfold hasLoc
    rw[List.any_cons,decide_eq_false (by omega),Bool.false_or]
   ·have e:thereL a i (x::r)=decide (x.acct=a /\ x.instr=i):=by unfold thereL posOf;rw[if_neg hk];rfl
    rw[e]
    unfold hasLoc
    rw[List.any_cons]
    by_cases he:x.acct=a /\ x.instr=i
    ·rw[decide_eq_true he];rfl
    ·rw[decide_eq_false he,Bool.false_or]
     symm
     rw[List.any_eq_false]
     intro y hy hc
     have hc:=of_decide_eq_true hc
     have:=hx y hy
     have hge:¬ (x.acct<a \/ x.acct=a /\ x.instr<i):=fun hh=>hk (decide_eq_true hh)
     unfold Pos.Lt at this
     omega
theorem heldL_none {a i:Int}:∀ {l:List Pos},hasLoc l a i=false -> heldL l a i=0
 | [],_=>rfl
 | x::r,h=>by
   unfold hasLoc at h
   rw[List.any_cons,Bool.or_eq_false_iff] at h
   unfold heldL
   rw[if_neg (of_decide_eq_false h.1)]
   exact heldL_none h.2
theorem heldL_put {a i q:Int}:∀ {l:List Pos},l.Pairwise Pos.Lt -> heldL (putLoc a i q l) a i=q
 | [],_=>by
   unfold putLoc
   by_cases hq:q=0
   ·rw[if_pos hq,hq];rfl
   ·rw[if_neg hq];unfold heldL;rw[if_pos ⟨rfl,rfl⟩]
 | x::r,h=>by
   obtain⟨hx,hr⟩:=List.pairwise_cons.1 h
   have none:∀ l:List Pos,(∀ y∈l,a<y.acct \/ a=y.acct /\ i<y.instr) -> heldL l a i=0:=fun l hl=>heldL_none (by
    unfold hasLoc
    rw[List.any_eq_false]
    intro y hy hc
    have hc:=of_decide_eq_true hc
    have:=hl y hy
    omega)
   unfold putLoc
   by_cases h1:x.acct=a /\ x.instr=i
   ·rw[if_pos h1]
    by_cases hq:q=0
    ·rw[if_pos hq,hq]
     exact none r fun y hy=>by have:=hx y hy;unfold Pos.Lt at this;omega
    ·rw[if_neg hq];unfold heldL;rw[if_pos ⟨rfl,rfl⟩]
   ·rw[if_neg h1]
    by_cases h2:a<x.acct \/ a=x.acct /\ i<x.instr
    ·rw[if_pos h2]
     by_cases hq:q=0
     ·rw[if_pos hq,hq]
      refine none _ fun y hy=>?_
      rcases List.mem_cons.1 hy with hy|hy
      ·rw[hy];exact h2
      ·have:=hx y hy;unfold Pos.Lt at this;omega
     ·rw[if_neg hq];unfold heldL;rw[if_pos ⟨rfl,rfl⟩]
    ·rw[if_neg h2]
     unfold heldL
     rw[if_neg h1]
     exact heldL_put hr
def docGo (a i q:Int) (t:Bool):List Pos -> Bool -> List Pos
 | [],laid=>if laid=true then [] else [⟨a,i,q⟩]
 | x::r,laid =>
   if x.acct=a /\ x.instr=i then (if laid=true then docGo a i q t r true else ⟨a,i,q⟩::docGo a i q t r true)
   else if laid=false /\ t=false /\ (a<x.acct \/ a=x.acct /\ i<x.instr) then ⟨a,i,q⟩::x::docGo a i q t r true
   else x::docGo a i q t r laid
theorem noLoc {a i:Int} {l:List Pos} (h:∀ y∈l,a<y.acct \/ a=y.acct /\ i<y.instr):hasLoc l a i=false:=by
 unfold hasLoc
 rw[List.any_eq_false]
 intro y hy hc
 have hc:=of_decide_eq_true hc
 have:=h y hy
 omega
theorem docGo_done {a i q:Int} {t:Bool}:∀ {l:List Pos},hasLoc l a i=false -> docGo a i q t l true=l
 | [],_=>rfl
 | x::r,h=>by
   unfold hasLoc at h
   rw[List.any_cons,Bool.or_eq_false_iff] at h
   unfold docGo
   rw[if_neg (of_decide_eq_false h.1),if_neg (by simp),docGo_done h.2]
theorem docGo_zero {a i:Int} {t:Bool}:∀ {l:List Pos},l.Pairwise Pos.Lt -> docGo a i 0 t l true=putLoc a i 0 l
 | [],_=>rfl
 | x::r,h=>by
   obtain⟨hx,hr⟩:=List.pairwise_cons.1 h
   unfold docGo putLoc
   by_cases h1:x.acct=a /\ x.instr=i
   ·rw[if_pos h1,if_pos h1,if_pos rfl,if_pos rfl]
    exact docGo_done (noLoc fun y hy=>by have:=hx y hy;unfold Pos.Lt at this;omega)
   ·rw[if_neg h1,if_neg h1,if_neg (by simp)]
    by_cases h2:a<x.acct \/ a=x.acct /\ i<x.instr
    ·rw[if_pos h2,if_pos rfl,docGo_done (noLoc fun y hy=>by have:=hx y hy;unfold Pos.Lt at this;omega)]
    ·rw[if_neg h2,docGo_zero hr]
theorem docGo_new {a i q:Int} (hq:q≠0) {t:Bool}:∀ {l:List Pos},l.Pairwise Pos.Lt -> hasLoc l a i=t -> docGo a i q t l false=putLoc a i q l
 | [],_,_=>by unfold docGo putLoc;rw[if_neg hq,if_neg (by decide)]
 | x::r,h,ht=>by
   obtain⟨hx,hr⟩:=List.pairwise_cons.1 h
   unfold docGo putLoc
   by_cases h1:x.acct=a /\ x.instr=i
   ·rw[if_pos h1,if_pos h1,if_neg hq,if_neg (by decide)]
    rw[docGo_done (noLoc fun y hy=>by have:=hx y hy;unfold Pos.Lt at this;omega)]
   ·rw[if_neg h1,if_neg h1]
    have ht':hasLoc r a i=t:=by
     unfold hasLoc at ht ⊢
     rw[List.any_cons,decide_eq_false h1,Bool.false_or] at ht
     exact ht
    by_cases h2:a<x.acct \/ a=x.acct /\ i<x.instr
    ·have hn:hasLoc r a i=false:=noLoc fun y hy=>by have:=hx y hy;unfold Pos.Lt at this;omega
     rw[hn] at ht'
     rw[if_pos ⟨rfl,ht'.symm,h2⟩,if_pos h2,if_neg hq,docGo_done hn]
    ·rw[if_neg (fun hh=>h2 hh.2.2),if_neg h2,docGo_new hq hr ht']
end Go.Bw
