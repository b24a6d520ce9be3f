/- Joined: Keep2, LifCl, LifCm. -/
import Derived.Test.YtfknkmlocbojhaaGreatDoorGn
import Derived.Test.YtfknkmlocbojhaaGreatDoorHp
import Derived.Test.YtfknkmlocbojhaaGreatDoorGl
set_option linter.unusedVariables false
set_option linter.unusedSimpArgs false
namespace Go.Bw
open Go.RowKit
structure KA (Ba E:Nat) (Va:aC) (M:aH) (V:aC) (l:aH) (W:World):Prop where
 own:aZ W Ba V l
 lt:∀ x∈V.rows,∀ k,x.ownBlock=some k->k<E
 v1:V.aO=Va.aO
 v2:V.ah=Va.ah
 v3:V.af=Va.af
 v4:V.ai=Va.ai
 v5:V.aB=Va.aB
 v6:V.orders=Va.orders
 v7:V.aF=Va.aF
 v8:V.aK=Va.aK
 l1:l.aO.length=M.aO.length
 l2:l.ah.length=M.ah.length
 l3:l.af.length=M.af.length
 l4:l.ai.length=M.ai.length
 l5:l.aB.length=M.aB.length
 l6:l.orders.length=M.orders.length
 l7:l.aF.length=M.aF.length
 l8:l.aK.length=M.aK.length
structure Oy (w:World) (Ba E:Nat) (bs:List (Nat×TypeId×Array Value)) (Vm:aC) (L:aH) (Va:aC) (M:aH) (Vb Vw:aC) (W:World):Prop where
 at_:At w W bs
 mine:bJ W Vm L
 b:bJ W Vb M
 want:bJ W Vw M
 a:∃ V l,KA Ba E Va M V l W
variable {a:Option Addr} {w W W':World} {Ba E g k j c:Nat} {bs:List (Nat×TypeId×Array Value)} {Vm Va Vb Vw V:aC} {L M l:aH}
theorem Oy.go (h:Oy w Ba E bs Vm L Va M Vb Vw W) (hb:Below W.heap.size W W'):Oy w Ba E bs Vm L Va M Vb Vw W':=by
 obtain⟨V,l,a⟩:=h.a;exact⟨h.at_.go hb,h.mine.below hb,h.b.below hb,h.want.below hb,V,l,⟨a.own.below hb,a.lt,a.v1,a.v2,a.v3,a.v4,a.v5,a.v6,a.v7,a.v8,a.l1,a.l2,a.l3,a.l4,a.l5,a.l6,a.l7,a.l8⟩⟩
theorem KA.block (h:KA Ba E Va M V l W) {x:Value} (hx:x∈V.rows) (hg:x.ownBlock=some g):Ba<=g/\g<E:=⟨(h.own.JY x hx g hg).1,h.lt x hx g hg⟩
end Go.Bw
namespace Go.Proofs.YtfknkmlocbojhaaGreatDoor
open Go.RowKit Go.Bw Go.Maps Go.Shelf Go.Bw.Fall
structure KT (L M:aH) (k:Nat) (u:Int):Prop where
 Oi:k=0->M.day=L.day+1/\L.day<100000/\M.orders=[]/\M.aK=[]/\M.aF=List.replicate L.af.length 0/\M.aB=L.aB.filter (fun p=>gJ L.day (L.ins p.instr))
 zT:k≠0->M.day=L.day
 aO:M.aO=L.aO
 acl:M.ai.length=L.ai.length
 acc:∀ (v:Nat) (p q:Go.Bw.Acc),L.ai[v]?=some p->M.ai[v]?=some q->q.parent=p.parent/\q.last=p.last
 MJ:M.ah.length=L.ah.length
 und:∀ (n:Nat) (x y:eU),M.ah[n]?=some x->L.ah[n]?=some y->(x=y\/((n:Int)=u/\(k=1\/k=3)))/\x.dL=y.dL/\x.cur=y.cur/\(k=1->x.name=y.name)/\(k=3->x.price=y.price)
 inl:M.af.length=L.af.length
 ins:∀ (n:Nat) (x y:Ins),M.af[n]?=some x->L.af[n]?=some y->x=y\/(k=0/\x={ y with mark:=x.mark })\/(k=1/\y.under=u/\x={ y with mark:=x.mark,strike:=x.strike })
 rest:2<=k->M.af=L.af/\M.aB=L.aB/\M.orders=L.orders/\M.aF=L.aF/\M.aK=L.aK
theorem vX {l m:List Go.Bw.Acc} (e:m.map Acc.shape=l.map Acc.shape):m.length=l.length/\∀ (v:Nat) (p q:Go.Bw.Acc),l[v]?=some p->m[v]?=some q->q.parent=p.parent/\q.last=p.last:=by
 refine⟨by simpa using congrArg List.length e,fun v p q hp hq=>?_⟩;have h:=congrArg (fun x=>x[v]?) e
 simp only[List.getElem?_map,hp,hq,Option.map_some,Option.some.injEq,Acc.shape,Prod.mk.injEq] at h
 exact⟨h.1,h.2.2.1⟩
theorem Ih {l m:List Ins} (e:m.map Ins.noMark=l.map Ins.noMark):m.length=l.length/\∀ (v:Nat) (x y:Ins),m[v]?=some x->l[v]?=some y->x={ y with mark:=x.mark }:=by
 refine⟨by simpa using congrArg List.length e,fun v x y hx hy=>?_⟩;have h:=congrArg (fun x=>x[v]?) e
 simp only[List.getElem?_map,hx,hy,Option.map_some,Option.some.injEq,Ins.noMark,Ins.mk.injEq] at h
 obtain⟨h1,h2,h3,h4,h5,h6,_⟩:=h
 cases x;cases y
 simp only at h1 h2 h3 h4 h5 h6
 subst h1;subst h2;subst h3;subst h4;subst h5;subst h6;rfl
theorem KF {α:Type} {l:List α} {u:Int} {d z x y:α} {n:Nat} (hu:0<=u/\u<l.length) (hx:(l.set u.toNat z)[n]?=some x) (hy:l[n]?=some y):x=y\/((n:Int)=u/\x=z/\y=l.getD u.toNat d):=by
 rw[List.getElem?_set] at hx;by_cases e:u.toNat=n
 ·rw[if_pos e,if_pos (by omega)] at hx
  right
  refine⟨by omega,(Option.some.inj hx).symm,?_⟩;rw[List.getD_eq_getElem?_getD,e,hy];rfl
 rw[if_neg e] at hx
 left
 exact Option.some.inj (hx.symm.trans hy)
theorem Hy {L:aH} (h:L.Good) {k:Nat} (hk:k<4) {u a b:Int} {s:ByteArray} (he:(iV L k u a b s).err=0):KT L (iV L k u a b s).led k u:=by
 have ch:k=0\/k=1\/k=2\/k=3:=by omega
 rcases ch with rfl|rfl|rfl|rfl
 ·have he':(jq L).err=0:=he;obtain⟨c1,_,c2,c3,c4,c5,c6,c7,c8,c9⟩:=zU h he';have hd:L.day<100000:=by
   by_cases h1:L.day<100000
   ·exact h1
   unfold jq at he';rw[if_neg h1] at he';exact absurd (iF he') (by decide)
  obtain⟨s1,s2⟩:=vX c9;obtain⟨i1,i2⟩:=Ih c8;refine⟨fun _=>⟨c1,hd,c2,c3,c4,c5⟩,fun e=>absurd rfl e,c6,s1,s2,by show (jq L).led.ah.length=_;rw[c7],fun n x y hx hy=>?_,i1,fun n x y hx hy=>Or.inr (Or.inl ⟨rfl,i2 n x y hx hy⟩),fun e=>by omega⟩;have hx':(jq L).led.ah[n]?=some x:=hx;rw[c7,hy] at hx';cases hx';exact⟨Or.inl rfl,rfl,rfl,fun e=>by omega,fun e=>by omega⟩
 ·have he':(bZ L u a b).err=0:=he;obtain⟨c1,_,c2,c3,c4,c5,c6⟩:=wS h he';obtain⟨s1,s2⟩:=vX c6;refine⟨fun e=>by omega,fun _=>c2,c3,s1,s2,by show (bZ L u a b).led.ah.length=_;rw[c4,List.length_set],fun n x y hx hy=>?_,by show (bZ L u a b).led.af.length=_;rw[c5];simp[eX],fun n x y hx hy=>?_,fun e=>by omega⟩
  ·have hx':(bZ L u a b).led.ah[n]?=some x:=hx;rw[c4] at hx';rcases KF (d:=⟨⟨#[]⟩,0,0,0⟩) c1 hx' hy with e|⟨e1,e2,e3⟩
   ·subst e;exact⟨Or.inl rfl,rfl,rfl,fun _=>rfl,fun e=>by omega⟩
   rw[e2,e3];exact⟨Or.inr ⟨e1,Or.inl rfl⟩,rfl,rfl,fun _=>rfl,fun e=>by omega⟩
  have hx':(bZ L u a b).led.af[n]?=some x:=hx;rw[c5] at hx';unfold eX at hx';rw[List.getElem?_map,hy] at hx'
  simp only[Option.map_some,Option.some.injEq] at hx'
  by_cases e:y.under=u
  ·rw[if_pos e] at hx'
   right;right
   subst hx';exact⟨rfl,e,rfl⟩
  rw[if_neg e] at hx'
  left;exact hx'.symm
 ·have he':(iT L u a).err=0:=he;obtain⟨K,_⟩:=zY h he';obtain⟨s1,s2⟩:=vX K.ai;refine⟨fun e=>by omega,fun _=>K.day,K.aO,s1,s2,by show (iT L u a).led.ah.length=_;rw[K.ah],fun n x y hx hy=>?_,by show (iT L u a).led.af.length=_;rw[K.af],fun n x y hx hy=>?_,fun _=>⟨K.af,K.aB,K.orders,K.aF,K.aK⟩⟩
  ·have hx':(iT L u a).led.ah[n]?=some x:=hx;rw[K.ah,hy] at hx';cases hx';exact⟨Or.inl rfl,rfl,rfl,fun e=>by omega,fun e=>by omega⟩
  have hx':(iT L u a).led.af[n]?=some x:=hx;rw[K.af,hy] at hx';cases hx';exact Or.inl rfl
 have he':(iD L u s).err=0:=he;obtain⟨hu,e⟩:=Ia he';have e':iV L 3 u a b s=_:=e;rw[e'];refine⟨fun e=>by omega,fun _=>rfl,rfl,rfl,fun v p q hp hq=>?_,by simp,fun n x y hx hy=>?_,rfl,fun n x y hx hy=>?_,fun _=>⟨rfl,rfl,rfl,rfl,rfl⟩⟩
 ·have hq':L.ai[v]?=some q:=hq;rw[hp] at hq';cases hq';exact⟨rfl,rfl⟩
 ·have hx':(L.ah.set u.toNat { L.und u with name:=s })[n]?=some x:=hx;rcases KF (d:=⟨⟨#[]⟩,0,0,0⟩) hu hx' hy with e|⟨e1,e2,e3⟩
  ·subst e;exact⟨Or.inl rfl,rfl,rfl,fun e=>by omega,fun _=>rfl⟩
  rw[e2,e3];exact⟨Or.inr ⟨e1,Or.inr rfl⟩,rfl,rfl,fun e=>by omega,fun _=>rfl⟩
 have hx':L.af[n]?=some x:=hx;rw[hy] at hx';cases hx';exact Or.inl rfl
theorem KT.flags {L l m:aH} {k:Nat} {u:Int} (c:KT L l k u) (h:fM l=some m):KT L m k u:=by
 obtain⟨e,hn,hk⟩:=Ad h;refine⟨fun z=>by have:=c.Oi z;rw[e];exact this,fun z=>by have:=c.zT z;rw[e];exact this,by rw[e];exact c.aO,hn.trans c.acl,fun v p q hp hq=>?_,by rw[e];exact c.MJ,fun n x y hx hy=>?_,by rw[e];exact c.inl,fun n x y hx hy=>?_,fun z=>by have:=c.rest z;rw[e];exact this⟩
 ·have hv:v<l.ai.length:=by have:=(List.getElem?_eq_some_iff.1 hq).1;omega
  have h1:=hk v _ q (List.getElem?_eq_getElem hv) hq;have h2:=c.acc v p _ hp (List.getElem?_eq_getElem hv);rw[<-h1] at h2;exact h2
 ·rw[e] at hx;exact c.und n x y hx hy
 rw[e] at hx;exact c.ins n x y hx hy
theorem oN {L:aH} {k:Nat} (hk:k<4) {u a b:Int} {s:ByteArray} (h:(dV L (iV L k u a b s)).2.2=0):L.Good/\KT L (dV L (iV L k u a b s)).1 k u:=by
 obtain⟨hg,he,hf,e,_⟩:=zG h;rw[e];exact⟨hg,(Hy hg hk he).flags (sH (uZ hg he) hf).1⟩
end Go.Proofs.YtfknkmlocbojhaaGreatDoor
namespace Go.Bw
open Go.RowKit
theorem aT.Oq {w:World} {B g c k:Nat} {e:TypeId} {l:List (Acc×Value)} {p:Acc×Value} (h:aT w B e 4 Acc.cells (.slice (some ⟨g,0,none⟩) l.length c) l) (hk:l[k]?=some p) (q:Acc×Value) :
 aT ((((w.setCell ⟨g,k*4,none⟩ (.int .i64 q.1.parent)).setCell ⟨g,k*4+1,none⟩ q.2).setCell ⟨g,k*4+2,none⟩ (.bool q.1.flag)).setCell ⟨g,k*4+3,none⟩ (.int .i64 q.1.last)) B e 4 Acc.cells (.slice (some ⟨g,0,none⟩) l.length c) (l.set k q) /\
  Mod (fun b=>b=g) w ((((w.setCell ⟨g,k*4,none⟩ (.int .i64 q.1.parent)).setCell ⟨g,k*4+1,none⟩ q.2).setCell ⟨g,k*4+2,none⟩ (.bool q.1.flag)).setCell ⟨g,k*4+3,none⟩ (.int .i64 q.1.last)):=by
 have hl:=(List.getElem?_eq_some_iff.1 hk).1;obtain⟨o0,m0⟩:=h.set di (k:=k) (j:=0) (x':=({ p.1 with parent:=q.1.parent },p.2)) (u:=.int .i64 q.1.parent) hk (by decide) rfl;obtain⟨l0,hl0⟩:∃ x,x=l.set k ({ p.1 with parent:=q.1.parent },p.2):=⟨_,rfl⟩;have n0:l.length=l0.length:=by rw[hl0,List.length_set]
 have k0:l0[k]?=some ({ p.1 with parent:=q.1.parent },p.2):=by rw[hl0,List.getElem?_set_self hl]
 rw[<-hl0,n0] at o0;obtain⟨o1,m1⟩:=o0.set di (k:=k) (j:=1) (x':=({ p.1 with parent:=q.1.parent },q.2)) (u:=q.2) k0 (by decide) rfl;obtain⟨l1,hl1⟩:∃ x,x=l0.set k ({ p.1 with parent:=q.1.parent },q.2):=⟨_,rfl⟩;have n1:l0.length=l1.length:=by rw[hl1,List.length_set]
 have k1:l1[k]?=some ({ p.1 with parent:=q.1.parent },q.2):=by rw[hl1,List.getElem?_set_self (by omega)]
 rw[<-hl1,n1] at o1;obtain⟨o2,m2⟩:=o1.set di (k:=k) (j:=2) (x':=({ p.1 with parent:=q.1.parent,flag:=q.1.flag },q.2)) (u:=.bool q.1.flag) k1 (by decide) rfl;obtain⟨l2,hl2⟩:∃ x,x=l1.set k ({ p.1 with parent:=q.1.parent,flag:=q.1.flag },q.2):=⟨_,rfl⟩;have n2:l1.length=l2.length:=by rw[hl2,List.length_set]
 have k2:l2[k]?=some ({ p.1 with parent:=q.1.parent,flag:=q.1.flag },q.2):=by rw[hl2,List.getElem?_set_self (by omega)]
 rw[<-hl2,n2] at o2;obtain⟨o3,m3⟩:=o2.set di (k:=k) (j:=3) (x':=q) (u:=.int .i64 q.1.last) k2 (by decide) rfl;have e3:l2.set k q=l.set k q:=by rw[hl2,hl1,hl0,List.set_set,List.set_set,List.set_set]
 rw[e3,<-n2,<-n1,<-n0] at o3;exact⟨o3,((m0.trans m1 (fun _ _ h=>h)).trans m2 (fun _ _ h=>h)).trans m3 (fun _ _ h=>h)⟩
theorem aZ.mixed {w W:World} {B g c:Nat} {S:Nat->Prop} {U V:aC} {M L:aH} (h:aZ w B U M) (hg:U.ai=.slice (some ⟨g,0,none⟩) U.ac.length c) (hm:Mod S w W) (hS:∀ k,S k->k=g\/w.heap.size<=k)
 (ho:RowOf W 4 Acc.cells U.ai V.ac) (hV:bJ W V L) (e1:M.aO=L.aO) (e2:M.af=L.af) (e3:M.aB=L.aB) (e4:M.orders=L.orders) (e5:M.aF=L.aF) (e6:M.aK=L.aK) :
 bJ W { U with ah:=V.ah,ac:=V.ac } L:=by
 have hy:U.rows[3]?=some U.ai:=rfl;have R:∀ {i:Nat} {x:Value},i≠3->U.rows[i]?=some x->∀ k,x.ownBlock=some k->¬ S k:=fun hi hx k hk hs=>by
  rcases hS k hs with e|e
  ·exact rows_apart h.sep hi hx hy k hk (by rw[hg,e];rfl)
  have:=(h.JY _ (List.mem_of_getElem? hx) k hk).2;omega
 refine⟨by rw[<-e1];exact h.led.aO.kept hm (R (i:=0) (by decide) rfl),hV.ah,by rw[<-e2];exact h.led.af.kept hm (R (i:=2) (by decide) rfl),hV.same,ho,hV.aV,by rw[<-e3];exact h.led.aB.kept hm (R (i:=4) (by decide) rfl),by rw[<-e4];exact h.led.orders.kept hm (R (i:=5) (by decide) rfl),
  by rw[<-e5];exact h.led.aF.kept hm (R (i:=6) (by decide) rfl),by rw[<-e6];exact h.led.aK.kept hm (R (i:=7) (by decide) rfl),hV.names,hV.nums⟩
theorem Ce {α:Type} {l m:List α} {j:Nat} {q:α} (hq:l[j]?=some q) (hm:j<m.length):(l.take j++m.drop j).set j q=l.take (j+1)++m.drop (j+1):=by
 have hj:=(List.getElem?_eq_some_iff.1 hq).1;have e:(l.take j).length=j:=by rw[List.length_take];omega
 rw[List.set_append_right _ _ (by omega),e,Nat.sub_self,List.drop_eq_getElem_cons hm,List.set_cons_zero,List.take_add_one,hq];simp
theorem Ku {α:Type} {l m:List α} {j:Nat} (hl:j<=l.length) (hm:j<m.length):(l.take j++m.drop j)[j]?=m[j]?:=by
 have e:(l.take j).length=j:=by rw[List.length_take];omega
 rw[List.getElem?_append_right (by omega),e,Nat.sub_self,List.getElem?_drop,Nat.add_zero]
theorem xH {α:Type} {l:List α} {f:α->Bool} {j:Nat} {p:α} (hp:l[j]?=some p) (hf:f p=true):(l.filter f)[((l.take j).filter f).length]?=some p:=by
 have hj:=(List.getElem?_eq_some_iff.1 hp).1;have e:l=l.take j++p::l.drop (j+1):=by
  have h1:=(List.take_append_drop j l).symm;rw[List.drop_eq_getElem_cons hj,(List.getElem?_eq_some_iff.1 hp).2] at h1;exact h1
 have h2:l.filter f=(l.take j).filter f++p::(l.drop (j+1)).filter f:=by
  conv=>lhs;rw[e]
  rw[List.filter_append,List.filter_cons_of_pos hf]
 rw[h2,List.getElem?_append_right (Nat.le_refl _),Nat.sub_self];rfl
end Go.Bw
