/- Joined: Keep2, LawRK, MiRK. -/
import Derived.Test.YtnkpdfjnjmmleaaGreatDoorGn
import Derived.Test.YtnkpdfjnjmmleaaGreatDoorAfter
import Derived.Test.YtnkpdfjnjmmleaaGreatDoorHe
import Derived.Test.YtnkpdfjnjmmleaaGreatDoorGk
import Derived.Test.YtnkpdfjnjmmleaaGreatDoorGl
import Derived.Test.YtnkpdfjnjmmleaaGreatDoorHq
set_option linter.unusedVariables false
set_option linter.unusedSimpArgs false
set_option maxRecDepth 100000
set_option maxHeartbeats 16000000
namespace Go.Bw
open Go.RowKit
theorem LedAt.kept {w w':World} {V:LedV} {l:Led} {S:Nat -> Prop} (h:LedAt w V l) (hm:Mod S w w') (hS:∀ k,S k -> V.NotIn k):LedAt w' V l:=by
 have hr:∀ x∈V.rows,∀ k,x.ownBlock=some k -> ¬ S k:=fun x hx k hk hs=>hS k hs x hx hk
 have ha:∀ p∈V.ac,p.2∈V.rows:=fun p hp=>by
  simp only[LedV.rows,List.mem_cons,List.mem_map]
  exact Or.inr (Or.inr (Or.inr (Or.inr (Or.inr (Or.inr (Or.inr (Or.inr ⟨p,hp,rfl⟩)))))))
 exact⟨h.curs.kept hm (hr _ (by simp[LedV.rows])),h.unders.kept hm (hr _ (by simp[LedV.rows])),h.instrs.kept hm (hr _ (by simp[LedV.rows])),h.same,h.accts.kept hm (hr _ (by simp[LedV.rows])),fun p hp=>(h.cash p hp).kept hm (hr _ (ha p hp)),
  h.poss.kept hm (hr _ (by simp[LedV.rows])),h.orders.kept hm (hr _ (by simp[LedV.rows])),h.avail.kept hm (hr _ (by simp[LedV.rows])),h.locs.kept hm (hr _ (by simp[LedV.rows])),h.names,h.nums⟩
structure KC (w:World) (Ba E:Nat) (bs:List (Nat×TypeId×Array Value)) (Vm Vb Vw:LedV):Prop where
 lo:w.heap.size <= Ba
 bs:∀ x∈bs,x.1<Ba \/ E <= x.1
 m:∀ x∈Vm.rows,∀ k,x.ownBlock=some k -> k<Ba
 b:∀ x∈Vb.rows,∀ k,x.ownBlock=some k -> E <= k
 w:∀ x∈Vw.rows,∀ k,x.ownBlock=some k -> E <= k
structure KA (Ba E:Nat) (Va:LedV) (M:Led) (V:LedV) (l:Led) (W:World):Prop where
 own:LedOwn W Ba V l
 lt:∀ x∈V.rows,∀ k,x.ownBlock=some k -> k<E
 v1:V.curs=Va.curs
 v2:V.unders=Va.unders
 v3:V.instrs=Va.instrs
 v4:V.accts=Va.accts
 v5:V.poss=Va.poss
 v6:V.orders=Va.orders
 v7:V.avail=Va.avail
 v8:V.locs=Va.locs
 l1:l.curs.length=M.curs.length
 l2:l.unders.length=M.unders.length
 l3:l.instrs.length=M.instrs.length
 l4:l.accts.length=M.accts.length
 l5:l.poss.length=M.poss.length
 l6:l.orders.length=M.orders.length
 l7:l.avail.length=M.avail.length
 l8:l.locs.length=M.locs.length
structure KAt (w:World) (Ba E:Nat) (bs:List (Nat×TypeId×Array Value)) (Vm:LedV) (L:Led) (Va:LedV) (M:Led) (Vb Vw:LedV) (W:World):Prop where
 at_:At w W bs
 mine:LedAt W Vm L
 b:LedAt W Vb M
 want:LedAt W Vw M
 a:∃ V l,KA Ba E Va M V l W
variable {a:Option Addr} {w W W':World} {Ba E g k j c:Nat} {bs:List (Nat×TypeId×Array Value)} {Vm Va Vb Vw V:LedV} {L M l:Led}
theorem KAt.go (h:KAt w Ba E bs Vm L Va M Vb Vw W) (hb:Below W.heap.size W W'):KAt w Ba E bs Vm L Va M Vb Vw W':=by
 obtain⟨V,l,a⟩:=h.a
 exact⟨h.at_.go hb,h.mine.below hb,h.b.below hb,h.want.below hb,V,l,⟨a.own.below hb,a.lt,a.v1,a.v2,a.v3,a.v4,a.v5,a.v6,a.v7,a.v8,a.l1,a.l2,a.l3,a.l4,a.l5,a.l6,a.l7,a.l8⟩⟩
theorem KAt.write (h:KAt w Ba E bs Vm L Va M Vb Vw W) (K:KC w Ba E bs Vm Vb Vw) (h1:Ba <= g) (h2:g<E) (hm:Mod (fun k=>k=g) W W') (ha:∃ V l,KA Ba E Va M V l W'):KAt w Ba E bs Vm L Va M Vb Vw W' :=
 ⟨h.at_.mod hm (fun k e=>by have:=K.lo;omega) (fun x hx e=>by have:=K.bs x hx;omega),h.mine.kept hm (fun k e x hx hk=>by have:=K.m x hx k hk;omega),h.b.kept hm (fun k e x hx hk=>by have:=K.b x hx k hk;omega),h.want.kept hm (fun k e x hx hk=>by have:=K.w x hx k hk;omega),ha⟩
theorem KA.block (h:KA Ba E Va M V l W) {x:Value} (hx:x∈V.rows) (hg:x.ownBlock=some g):Ba <= g /\ g<E:=⟨(h.own.lts x hx g hg).1,h.lt x hx g hg⟩
theorem KAt.blank_curs (h:KAt w Ba E bs Vm L Va M Vb Vw W) (K:KC w Ba E bs Vm Vb Vw) (hk:k<M.curs.length) (hv:Va.curs=.slice a M.curs.length c) :
 ∃ g,a=some ⟨g,0,none⟩ /\ (∃ x:Cur,W.cell? ⟨g,k*2,none⟩=some (.int .i64 x.rate) /\ W.cell? ⟨g,k*2+1,none⟩=some (.int .i64 x.hair)) /\ (∀ j,W.frozen? ⟨g,j,none⟩=false) /\ KAt w Ba E bs Vm L Va M Vb Vw ((W.setCell ⟨g,k*2,none⟩ (.int .i64 0)).setCell ⟨g,k*2+1,none⟩ (.int .i64 0)):=by
 obtain⟨V,l,A⟩:=h.a
 obtain⟨x,hx⟩:∃ x,l.curs[k]?=some x:=⟨_,List.getElem?_eq_getElem (by rw[A.l1];exact hk)⟩
 have hkl:=(List.getElem?_eq_some_iff.1 hx).1
 obtain⟨g,c',e,_,_,_,hfr⟩:=A.own.curs.block hx
 have e2:Va.curs=.slice (some ⟨g,0,none⟩) l.curs.length c':=by rw[<- A.v1];exact e
 have e3:=hv.symm.trans e2
 injection e3 with e4 _ e5
 subst e4
 have hB:=A.block (x:=V.curs) (by simp[LedV.rows]) (g:=g) (by rw[e];rfl)
 have hR:=A.own.curs.row curcells_len (by decide)
 rw[e] at hR
 obtain⟨b',o',e',_,hc⟩:=hR.at_ hx
 cases e'
 have hc':∀ j u,(Cur.cells x)[j]?=some u -> W.cell? ⟨g,k*2+j,none⟩=some u:=fun j u hj=>by have:=hc j u hj;rwa [Nat.zero_add] at this
 refine⟨g,rfl,⟨x,hc' 0 _ rfl,hc' 1 _ rfl⟩,hfr,?_⟩
 have s0:=LedOwn.set_curs A.own (g:=g) (c:=c') (k:=k) (j:=0) e (x:=x) (x':=⟨0,x.hair⟩) (u:=.int .i64 0) hx (by decide) rfl
 have s1:=LedOwn.set_curs s0.1 (g:=g) (c:=c') (k:=k) (j:=1) (by rw[e];simp) (x:=⟨0,x.hair⟩) (x':=⟨0,0⟩) (u:=.int .i64 0) (by simp[hkl]) (by decide) rfl
 simp only[Nat.add_zero,Nat.mul_one] at s0 s1
 have M0:=(s0.2.trans s1.2 (fun _ _ h=>h))
 refine h.write K hB.1 hB.2 M0 ⟨V,_,s1.1,A.lt,A.v1,A.v2,A.v3,A.v4,A.v5,A.v6,A.v7,A.v8,by simpa using A.l1,A.l2,A.l3,A.l4,A.l5,A.l6,A.l7,A.l8⟩
theorem KAt.blank_instrs (h:KAt w Ba E bs Vm L Va M Vb Vw W) (K:KC w Ba E bs Vm Vb Vw) (hk:k<M.instrs.length) (hv:Va.instrs=.slice a M.instrs.length c) :
 ∃ g,a=some ⟨g,0,none⟩ /\ (∃ x:Ins,W.cell? ⟨g,k*7,none⟩=some (.int .i64 x.kind) /\ W.cell? ⟨g,k*7+1,none⟩=some (.int .i64 x.under) /\ W.cell? ⟨g,k*7+2,none⟩=some (.int .i64 x.mult) /\ W.cell? ⟨g,k*7+3,none⟩=some (.int .i64 x.strike) /\ W.cell? ⟨g,k*7+4,none⟩=some (.int .i64 x.expiry) /\ W.cell? ⟨g,k*7+5,none⟩=some (.bool x.call) /\ W.cell? ⟨g,k*7+6,none⟩=some (.int .i64 x.mark)) /\ (∀ j,W.frozen? ⟨g,j,none⟩=false) /\ KAt w Ba E bs Vm L Va M Vb Vw (((((((W.setCell ⟨g,k*7,none⟩ (.int .i64 0)).setCell ⟨g,k*7+1,none⟩ (.int .i64 0)).setCell ⟨g,k*7+2,none⟩ (.int .i64 0)).setCell ⟨g,k*7+3,none⟩ (.int .i64 0)).setCell ⟨g,k*7+4,none⟩ (.int .i64 0)).setCell ⟨g,k*7+5,none⟩ (.bool false)).setCell ⟨g,k*7+6,none⟩ (.int .i64 0)):=by
 obtain⟨V,l,A⟩:=h.a
 obtain⟨x,hx⟩:∃ x,l.instrs[k]?=some x:=⟨_,List.getElem?_eq_getElem (by rw[A.l3];exact hk)⟩
 have hkl:=(List.getElem?_eq_some_iff.1 hx).1
 obtain⟨g,c',e,_,_,_,hfr⟩:=A.own.instrs.block hx
 have e2:Va.instrs=.slice (some ⟨g,0,none⟩) l.instrs.length c':=by rw[<- A.v3];exact e
 have e3:=hv.symm.trans e2
 injection e3 with e4 _ e5
 subst e4
 have hB:=A.block (x:=V.instrs) (by simp[LedV.rows]) (g:=g) (by rw[e];rfl)
 have hR:=A.own.instrs.row inscells_len (by decide)
 rw[e] at hR
 obtain⟨b',o',e',_,hc⟩:=hR.at_ hx
 cases e'
 have hc':∀ j u,(Ins.cells x)[j]?=some u -> W.cell? ⟨g,k*7+j,none⟩=some u:=fun j u hj=>by have:=hc j u hj;rwa [Nat.zero_add] at this
 refine⟨g,rfl,⟨x,hc' 0 _ rfl,hc' 1 _ rfl,hc' 2 _ rfl,hc' 3 _ rfl,hc' 4 _ rfl,hc' 5 _ rfl,hc' 6 _ rfl⟩,hfr,?_⟩
 have s0:=LedOwn.set_instrs A.own (g:=g) (c:=c') (k:=k) (j:=0) e (x:=x) (x':=⟨0,x.under,x.mult,x.strike,x.expiry,x.call,x.mark⟩) (u:=.int .i64 0) hx (by decide) rfl
 have s1:=LedOwn.set_instrs s0.1 (g:=g) (c:=c') (k:=k) (j:=1) (by rw[e];simp) (x:=⟨0,x.under,x.mult,x.strike,x.expiry,x.call,x.mark⟩) (x':=⟨0,0,x.mult,x.strike,x.expiry,x.call,x.mark⟩) (u:=.int .i64 0) (by simp[hkl]) (by decide) rfl
 have s2:=LedOwn.set_instrs s1.1 (g:=g) (c:=c') (k:=k) (j:=2) (by rw[e];simp) (x:=⟨0,0,x.mult,x.strike,x.expiry,x.call,x.mark⟩) (x':=⟨0,0,0,x.strike,x.expiry,x.call,x.mark⟩) (u:=.int .i64 0) (by simp[hkl]) (by decide) rfl
 have s3:=LedOwn.set_instrs s2.1 (g:=g) (c:=c') (k:=k) (j:=3) (by rw[e];simp) (x:=⟨0,0,0,x.strike,x.expiry,x.call,x.mark⟩) (x':=⟨0,0,0,0,x.expiry,x.call,x.mark⟩) (u:=.int .i64 0) (by simp[hkl]) (by decide) rfl
 have s4:=LedOwn.set_instrs s3.1 (g:=g) (c:=c') (k:=k) (j:=4) (by rw[e];simp) (x:=⟨0,0,0,0,x.expiry,x.call,x.mark⟩) (x':=⟨0,0,0,0,0,x.call,x.mark⟩) (u:=.int .i64 0) (by simp[hkl]) (by decide) rfl
 have s5:=LedOwn.set_instrs s4.1 (g:=g) (c:=c') (k:=k) (j:=5) (by rw[e];simp) (x:=⟨0,0,0,0,0,x.call,x.mark⟩) (x':=⟨0,0,0,0,0,false,x.mark⟩) (u:=.bool false) (by simp[hkl]) (by decide) rfl
 have s6:=LedOwn.set_instrs s5.1 (g:=g) (c:=c') (k:=k) (j:=6) (by rw[e];simp) (x:=⟨0,0,0,0,0,false,x.mark⟩) (x':=⟨0,0,0,0,0,false,0⟩) (u:=.int .i64 0) (by simp[hkl]) (by decide) rfl
 simp only[Nat.add_zero,Nat.mul_one] at s0 s1 s2 s3 s4 s5 s6
 have M0:=((((((s0.2.trans s1.2 (fun _ _ h=>h)).trans s2.2 (fun _ _ h=>h)).trans s3.2 (fun _ _ h=>h)).trans s4.2 (fun _ _ h=>h)).trans s5.2 (fun _ _ h=>h)).trans s6.2 (fun _ _ h=>h))
 refine h.write K hB.1 hB.2 M0 ⟨V,_,s6.1,A.lt,A.v1,A.v2,A.v3,A.v4,A.v5,A.v6,A.v7,A.v8,A.l1,A.l2,by simpa using A.l3,A.l4,A.l5,A.l6,A.l7,A.l8⟩
theorem KAt.blank_avail (h:KAt w Ba E bs Vm L Va M Vb Vw W) (K:KC w Ba E bs Vm Vb Vw) (hk:k<M.avail.length) (hv:Va.avail=.slice a M.avail.length c) :
 ∃ g,a=some ⟨g,0,none⟩ /\ (∃ x:Int,W.cell? ⟨g,k,none⟩=some (.int .i64 x)) /\ (∀ j,W.frozen? ⟨g,j,none⟩=false) /\ KAt w Ba E bs Vm L Va M Vb Vw (W.setCell ⟨g,k,none⟩ (.int .i64 (-9))):=by
 obtain⟨V,l,A⟩:=h.a
 obtain⟨x,hx⟩:∃ x,l.avail[k]?=some x:=⟨_,List.getElem?_eq_getElem (by rw[A.l7];exact hk)⟩
 have hkl:=(List.getElem?_eq_some_iff.1 hx).1
 obtain⟨g,c',e,_,_,_,hfr⟩:=A.own.avail.block hx
 have e2:Va.avail=.slice (some ⟨g,0,none⟩) l.avail.length c':=by rw[<- A.v7];exact e
 have e3:=hv.symm.trans e2
 injection e3 with e4 _ e5
 subst e4
 have hB:=A.block (x:=V.avail) (by simp[LedV.rows]) (g:=g) (by rw[e];rfl)
 have hR:=A.own.avail.row icell_len (by decide)
 rw[e] at hR
 obtain⟨b',o',e',_,hc⟩:=hR.at_ hx
 cases e'
 have hc':∀ j u,(icell x)[j]?=some u -> W.cell? ⟨g,k+j,none⟩=some u:=fun j u hj=>by have:=hc j u hj;rwa [Nat.zero_add,Nat.mul_one] at this
 refine⟨g,rfl,⟨x,hc' 0 _ rfl⟩,hfr,?_⟩
 have s0:=LedOwn.set_avail A.own (g:=g) (c:=c') (k:=k) e (x:=x) (x':=-9) (u:=.int .i64 (-9)) hx rfl
 have M0:=s0.2
 refine h.write K hB.1 hB.2 M0 ⟨V,_,s0.1,A.lt,A.v1,A.v2,A.v3,A.v4,A.v5,A.v6,A.v7,A.v8,A.l1,A.l2,A.l3,A.l4,A.l5,A.l6,by simpa using A.l7,A.l8⟩
theorem KAt.blank_unders (h:KAt w Ba E bs Vm L Va M Vb Vw W) (K:KC w Ba E bs Vm Vb Vw) (hk:k<M.unders.length) (hv:Va.unders=.slice a M.unders.length c) :
 ∃ g,a=some ⟨g,0,none⟩ /\ (∃ x:Und,W.cell? ⟨g,k*4,none⟩=some (.string x.name) /\ W.cell? ⟨g,k*4+1,none⟩=some (.int .i64 x.cur) /\ W.cell? ⟨g,k*4+2,none⟩=some (.int .i64 x.price) /\ W.cell? ⟨g,k*4+3,none⟩=some (.int .i64 x.vol)) /\ (∀ j,W.frozen? ⟨g,j,none⟩=false) /\ KAt w Ba E bs Vm L Va M Vb Vw ((((W.setCell ⟨g,k*4,none⟩ (.string ⟨#[]⟩)).setCell ⟨g,k*4+1,none⟩ (.int .i64 0)).setCell ⟨g,k*4+2,none⟩ (.int .i64 0)).setCell ⟨g,k*4+3,none⟩ (.int .i64 0)):=by
 obtain⟨V,l,A⟩:=h.a
 obtain⟨x,hx⟩:∃ x,l.unders[k]?=some x:=⟨_,List.getElem?_eq_getElem (by rw[A.l2];exact hk)⟩
 have hkl:=(List.getElem?_eq_some_iff.1 hx).1
 obtain⟨g,c',e,_,_,_,hfr⟩:=A.own.unders.block hx
 have e2:Va.unders=.slice (some ⟨g,0,none⟩) l.unders.length c':=by rw[<- A.v2];exact e
 have e3:=hv.symm.trans e2
 injection e3 with e4 _ e5
 subst e4
 have hB:=A.block (x:=V.unders) (by simp[LedV.rows]) (g:=g) (by rw[e];rfl)
 have hR:=A.own.unders.row undcells_len (by decide)
 rw[e] at hR
 obtain⟨b',o',e',_,hc⟩:=hR.at_ hx
 cases e'
 have hc':∀ j u,(Und.cells x)[j]?=some u -> W.cell? ⟨g,k*4+j,none⟩=some u:=fun j u hj=>by have:=hc j u hj;rwa [Nat.zero_add] at this
 refine⟨g,rfl,⟨x,hc' 0 _ rfl,hc' 1 _ rfl,hc' 2 _ rfl,hc' 3 _ rfl⟩,hfr,?_⟩
 have s0:=LedOwn.set_unders A.own (g:=g) (c:=c') (k:=k) (j:=0) e (x:=x) (x':=⟨⟨#[]⟩,x.cur,x.price,x.vol⟩) (u:=.string ⟨#[]⟩) hx (by decide) rfl (Nat.zero_le _)
 have s1:=LedOwn.set_unders s0.1 (g:=g) (c:=c') (k:=k) (j:=1) (by rw[e];simp) (x:=⟨⟨#[]⟩,x.cur,x.price,x.vol⟩) (x':=⟨⟨#[]⟩,0,x.price,x.vol⟩) (u:=.int .i64 0) (by simp[hkl]) (by decide) rfl (Nat.zero_le _)
 have s2:=LedOwn.set_unders s1.1 (g:=g) (c:=c') (k:=k) (j:=2) (by rw[e];simp) (x:=⟨⟨#[]⟩,0,x.price,x.vol⟩) (x':=⟨⟨#[]⟩,0,0,x.vol⟩) (u:=.int .i64 0) (by simp[hkl]) (by decide) rfl (Nat.zero_le _)
 have s3:=LedOwn.set_unders s2.1 (g:=g) (c:=c') (k:=k) (j:=3) (by rw[e];simp) (x:=⟨⟨#[]⟩,0,0,x.vol⟩) (x':=⟨⟨#[]⟩,0,0,0⟩) (u:=.int .i64 0) (by simp[hkl]) (by decide) rfl (Nat.zero_le _)
 simp only[Nat.add_zero,Nat.mul_one] at s0 s1 s2 s3
 have M0:=(((s0.2.trans s1.2 (fun _ _ h=>h)).trans s2.2 (fun _ _ h=>h)).trans s3.2 (fun _ _ h=>h))
 refine h.write K hB.1 hB.2 M0 ⟨V,_,s3.1,A.lt,A.v1,A.v2,A.v3,A.v4,A.v5,A.v6,A.v7,A.v8,A.l1,by simpa using A.l2,A.l3,A.l4,A.l5,A.l6,A.l7,A.l8⟩
def KIn (w:World) (Ba E:Nat) (bs:List (Nat×TypeId×Array Value)) (Vm:LedV) (L:Led) (Va:LedV) (M:Led) (Vb Vw:LedV) (k n:Nat) (pa:Option Addr) (pc:Nat) (W:World):Prop :=
 KAt w Ba E bs Vm L Va M Vb Vw W /\ ∃ V l p,KA Ba E Va M V l W /\ V.ac[k]?=some p /\ p.2=.slice pa n pc /\ p.1.cash.length=n
theorem KAt.inn (h:KAt w Ba E bs Vm L Va M Vb Vw W) (hk:k<M.accts.length) (hv:Va.accts=.slice a M.accts.length c) :
 ∃ g pa n pc,a=some ⟨g,0,none⟩ /\ W.cell? ⟨g,k*4+1,none⟩=some (.slice pa n pc) /\ n <= maxLen /\ KIn w Ba E bs Vm L Va M Vb Vw k n pa pc W:=by
 obtain⟨V,l,A⟩:=h.a
 have hn:V.ac.length=M.accts.length:=by rw[<- A.l4,A.own.same];simp
 obtain⟨p,hp⟩:∃ p,V.ac[k]?=some p:=⟨_,List.getElem?_eq_getElem (by omega)⟩
 obtain⟨g,c',e,_,_,_,hfr⟩:=A.own.accts.block hp
 have e2:Va.accts=.slice (some ⟨g,0,none⟩) V.ac.length c':=by rw[<- A.v4];exact e
 have e3:=hv.symm.trans e2
 injection e3 with e4 _ e5
 subst e4
 have hR:=A.own.accts.row acccells_len (by decide)
 rw[e] at hR
 obtain⟨b',o',e',_,hc⟩:=hR.at_ hp
 cases e'
 obtain⟨pa,pc,hpv,_⟩:=(A.own.cash p (List.mem_of_getElem? hp)).form
 have h1:=hc 1 p.2 rfl
 rw[Nat.zero_add] at h1
 have hlen:p.1.cash.length <= maxLen:=by
  have hr:=(A.own.cash p (List.mem_of_getElem? hp)).row icell_len (by decide)
  rw[hpv] at hr
  have:=hr.caps
  omega
 exact⟨g,pa,p.1.cash.length,pc,rfl,by rw[h1,hpv],hlen,h,V,l,p,A,hp,hpv,rfl⟩
theorem KIn.put {n:Nat} {pa:Option Addr} {pc:Nat} {x:Int} (h:KIn w Ba E bs Vm L Va M Vb Vw k n pa pc W) (K:KC w Ba E bs Vm Vb Vw) (hj:j<n) (hv:Va.accts=.slice (some ⟨g,0,none⟩) M.accts.length c) (hx:-9223372036854775808 <= x /\ x <= 9223372036854775807) :
 ∃ gp y,pa=some ⟨gp,0,none⟩ /\ W.cell? ⟨g,k*4+1,none⟩=some (.slice (some ⟨gp,0,none⟩) n pc) /\ W.cell? ⟨gp,j,none⟩=some (.int .i64 y) /\ W.frozen? ⟨gp,j,none⟩=false /\ KIn w Ba E bs Vm L Va M Vb Vw k n (some ⟨gp,0,none⟩) pc (W.setCell ⟨gp,j,none⟩ (.int .i64 x)):=by
 obtain⟨h0,V,l,p,A,hp,hpv,hpn⟩:=h
 have hn:V.ac.length=M.accts.length:=by rw[<- A.l4,A.own.same];simp
 have e:V.accts=.slice (some ⟨g,0,none⟩) V.ac.length c:=by rw[A.v4,hv,hn]
 have hR:=A.own.accts.row acccells_len (by decide)
 rw[e] at hR
 obtain⟨b',o',e',_,hc⟩:=hR.at_ hp
 cases e'
 have oc:=A.own.cash p (List.mem_of_getElem? hp)
 obtain⟨y,hy⟩:∃ y,p.1.cash[j]?=some y:=⟨_,List.getElem?_eq_getElem (by omega)⟩
 obtain⟨gp,pc',e2,_,_,_,hfr⟩:=oc.block hy
 have e3:=hpv.symm.trans e2
 injection e3 with e4 e5 e6
 subst e4 e5 e6
 have hrow:=oc.row icell_len (by decide)
 rw[e2] at hrow
 obtain⟨b2,o2,e7,_,hc2⟩:=hrow.at_ hy
 cases e7
 have h1:=hc 1 p.2 rfl
 have h2:=hc2 0 (.int .i64 y) rfl
 simp only[Nat.zero_add,Nat.mul_one,Nat.add_zero] at h1 h2
 have hmem:p.2∈V.rows:=by
  simp only[LedV.rows,List.mem_cons,List.mem_map]
  exact Or.inr (Or.inr (Or.inr (Or.inr (Or.inr (Or.inr (Or.inr (Or.inr ⟨p,List.mem_of_getElem? hp,rfl⟩)))))))
 have hB:=A.block hmem (g:=gp) (by rw[e2];rfl)
 have S:=A.own.setCash hp (g:=gp) (c:=pc) e2 hy hx
 have hrows:({ V with ac:=V.ac.set k ({ p.1 with cash:=p.1.cash.set j x },p.2) }:LedV).rows=V.rows:=by
  simp only[LedV.rows]
  rw[map_set_same (fun q:Acc×Value=>q.2) (x':=({ p.1 with cash:=p.1.cash.set j x },p.2)) hp rfl]
 have A':KA Ba E Va M { V with ac:=V.ac.set k ({ p.1 with cash:=p.1.cash.set j x },p.2) } { l with accts:=l.accts.set k { p.1 with cash:=p.1.cash.set j x } } (W.setCell ⟨gp,j,none⟩ (.int .i64 x)) :=
  ⟨S.1,by rw[hrows];exact A.lt,A.v1,A.v2,A.v3,A.v4,A.v5,A.v6,A.v7,A.v8,A.l1,A.l2,A.l3,by simpa using A.l4,A.l5,A.l6,A.l7,A.l8⟩
 refine⟨gp,y,rfl,by rw[h1,e2],h2,hfr j,h0.write K hB.1 hB.2 S.2 ⟨_,_,A'⟩,_,_,({ p.1 with cash:=p.1.cash.set j x },p.2),A',?_,e2,by simp⟩
 exact List.getElem?_set_self (List.getElem?_eq_some_iff.1 hp).1
theorem KAt.blank (h:KAt w Ba E bs Vm L Va M Vb Vw W) (K:KC w Ba E bs Vm Vb Vw) (hk:k<M.accts.length) (hv:Va.accts=.slice a M.accts.length c) :
 ∃ g,a=some ⟨g,0,none⟩ /\ (∃ u0 a1 n1 c1 u2 u3,W.cell? ⟨g,k*4,none⟩=some (.int .i64 u0) /\ W.cell? ⟨g,k*4+1,none⟩=some (.slice a1 n1 c1) /\ W.cell? ⟨g,k*4+2,none⟩=some (.bool u2) /\ W.cell? ⟨g,k*4+3,none⟩=some (.int .i64 u3)) /\ (∀ j,W.frozen? ⟨g,j,none⟩=false) /\
  KAt w Ba E bs Vm L Va M Vb Vw ((((W.setCell ⟨g,k*4,none⟩ (.int .i64 0)).setCell ⟨g,k*4+1,none⟩ (.slice none 0 0)).setCell ⟨g,k*4+2,none⟩ (.bool false)).setCell ⟨g,k*4+3,none⟩ (.int .i64 0)):=by
 obtain⟨V,l,A⟩:=h.a
 have hn:V.ac.length=M.accts.length:=by rw[<- A.l4,A.own.same];simp
 obtain⟨p,hp⟩:∃ p,V.ac[k]?=some p:=⟨_,List.getElem?_eq_getElem (by omega)⟩
 have hkl:=(List.getElem?_eq_some_iff.1 hp).1
 obtain⟨g,c',e,_,_,_,hfr⟩:=A.own.accts.block hp
 have e2:Va.accts=.slice (some ⟨g,0,none⟩) V.ac.length c':=by rw[<- A.v4];exact e
 have e3:=hv.symm.trans e2
 injection e3 with e4 _ e5
 subst e4
 have hB:=A.block (x:=V.accts) (by simp[LedV.rows]) (g:=g) (by rw[e];rfl)
 have hR:=A.own.accts.row acccells_len (by decide)
 rw[e] at hR
 obtain⟨b',o',e',_,hc⟩:=hR.at_ hp
 cases e'
 have hc':∀ j u,(Acc.cells p)[j]?=some u -> W.cell? ⟨g,k*4+j,none⟩=some u:=fun j u hj=>by have:=hc j u hj;rwa [Nat.zero_add] at this
 have s0:=A.own.acct (g:=g) (c:=c') (k:=k) (j:=0) (u:=.int .i64 0) e (p:=p) (p':=({ p.1 with parent:=0 },p.2)) hp (by decide) rfl rfl rfl
 have s1:=s0.1.acctCash (g:=g) (c:=c') (k:=k) (p:=({ p.1 with parent:=0 },p.2)) (u:=.slice none 0 0) (cash:=[]) (by simp[e]) (List.getElem?_set_self hkl) (OwnOf.nil _ _ _ _ _) (fun i x _ _ b _ hb=>by simp[Value.ownBlock] at hb) (by simp)
 have s2:=s1.1.acct (g:=g) (c:=c') (k:=k) (j:=2) (u:=.bool false) (by simp[e]) (p:=(⟨0,[],p.1.flag,p.1.last⟩,.slice none 0 0)) (p':=(⟨0,[],false,p.1.last⟩,.slice none 0 0)) (by simp[hkl]) (by decide) rfl rfl rfl
 have s3:=s2.1.acct (g:=g) (c:=c') (k:=k) (j:=3) (u:=.int .i64 0) (by simp[e]) (p:=(⟨0,[],false,p.1.last⟩,.slice none 0 0)) (p':=(⟨0,[],false,0⟩,.slice none 0 0)) (by simp[hkl]) (by decide) rfl rfl rfl
 simp only[Nat.add_zero] at s0 s1 s2 s3
 have M0:=((s0.2.trans s1.2 (fun _ _ h=>h)).trans s2.2 (fun _ _ h=>h)).trans s3.2 (fun _ _ h=>h)
 obtain⟨a1,c1,hpv,_⟩:=(A.own.cash p (List.mem_of_getElem? hp)).form
 refine⟨g,rfl,⟨p.1.parent,a1,p.1.cash.length,c1,p.1.flag,p.1.last,hc' 0 _ rfl,(hc' 1 _ rfl).trans (by rw[hpv]),hc' 2 _ rfl,hc' 3 _ rfl⟩,hfr,h.write K hB.1 hB.2 M0 ⟨_,_,s3.1,?_,A.v1,A.v2,A.v3,A.v4,A.v5,A.v6,A.v7,A.v8,A.l1,A.l2,A.l3,by simpa using A.l4,A.l5,A.l6,A.l7,A.l8⟩⟩
 intro x hx k' hk'
 simp only[LedV.rows,List.mem_cons,List.mem_map] at hx
 have key:∀ y,y∈V.rows -> y.ownBlock=some k' -> k'<E:=fun y hy h=>A.lt y hy k' h
 rcases hx with rfl|rfl|rfl|rfl|rfl|rfl|rfl|rfl|⟨q,hq,rfl⟩
 ·exact key _ (by simp[LedV.rows]) hk'
 ·exact key _ (by simp[LedV.rows]) hk'
 ·exact key _ (by simp[LedV.rows]) hk'
 ·exact key _ (by simp[LedV.rows]) hk'
 ·exact key _ (by simp[LedV.rows]) hk'
 ·exact key _ (by simp[LedV.rows]) hk'
 ·exact key _ (by simp[LedV.rows]) hk'
 ·exact key _ (by simp[LedV.rows]) hk'
 ·have hq2:q.2=.slice none 0 0 \/ ∃ q'∈V.ac,q'.2=q.2:=by
   rcases List.mem_or_eq_of_mem_set hq with hq|rfl
   ·rcases List.mem_or_eq_of_mem_set hq with hq|rfl
    ·rcases List.mem_or_eq_of_mem_set hq with hq|rfl
     ·rcases List.mem_or_eq_of_mem_set hq with hq|rfl
      ·exact Or.inr ⟨q,hq,rfl⟩
      ·exact Or.inr ⟨p,List.mem_of_getElem? hp,rfl⟩
     ·exact Or.inl rfl
    ·exact Or.inl rfl
   ·exact Or.inl rfl
  rcases hq2 with e1|⟨q',hq2,e1⟩
  ·rw[e1] at hk';simp[Value.ownBlock] at hk'
  ·rw[<- e1] at hk'
   refine key q'.2 ?_ hk'
   simp only[LedV.rows,List.mem_cons,List.mem_map]
   exact Or.inr (Or.inr (Or.inr (Or.inr (Or.inr (Or.inr (Or.inr (Or.inr ⟨q',hq2,rfl⟩)))))))
end Go.Bw
namespace Go.Proofs.YtnkpdfjnjmmleaaGreatDoor
open Go.RowKit Go.Bw Go.Maps Go.Shelf Go.Bw.Fall
theorem _root_.Go.Bw.LedOwn.rows_lt {w:World} {B:Nat} {V:LedV} {l:Led} (h:LedOwn w B V l):∀ x∈V.rows,∀ k,x.ownBlock=some k -> k<w.heap.size:=fun x hx k hk=>(LedOwn.lts h x hx k hk).2
theorem _root_.Go.Bw.LedOwn.rows_ge {w:World} {B:Nat} {V:LedV} {l:Led} (h:LedOwn w B V l):∀ x∈V.rows,∀ k,x.ownBlock=some k -> B <= k:=fun x hx k hk=>(LedOwn.lts h x hx k hk).1
theorem slice_of {α:Type} {w:World} {n:Nat} {f:α -> List Value} {v:Value} {l:List α} {m:Nat} (h:RowOf w n f v l) (hm:m=l.length):∃ a c,v=.slice a m c:=by obtain⟨a,c,e⟩:=h.form;exact⟨a,c,by rw[hm];exact e⟩
theorem admA_bulk {L:Led} {c:Cal}:(admA L (c.adm L)).1.bulk <= 1000000 /\ ∀ a∈(admA L (c.adm L)).1.accts,a.cash.length <= 4:=by
 by_cases h:(admA L (c.adm L)).2.2=0
 ·have:=good_bulk (admA_stays (L:=L) (k:=c.k) (A:=c.a) (B:=c.b) (C:=c.c) (u:=c.u) (i:=c.i) h).1
  exact⟨this.1,this.2.1⟩
 ·rw[(admA_no h).1]
  exact⟨by decide,by simp[L0]⟩
theorem adminKeeps_law (w:World) (V:LedV) (L:Led) (h:LedAt w V L) (hs0:L.Short) (hG:Grd w) (c:Cal) (hu:c.u.name.size <= maxLen) (hx:I64 c.c) :
 Calls Tryz.prog 8 #[V.val L,.agg c.cells] w fun e w'=>e=.returned (.bool true) /\ Below w.heap.size w w':=by
 classical
 have GR:=zq (fun W (hb:Below w.heap.size w W)=>hG.below hb)
 have HH:=zq (fun W (hb:Below w.heap.size w W)=>h.below hb)
 have SH:=zq hs0
 have HX:=zq (And.intro hu hx)
 have WK:=zq (fun W (hb:Below w.heap.size w W)=>wakes18_any W (hG.below hb))
 have WD:=zq (fun W (hb:Below w.heap.size w W)=>wide_any W V L (h.below hb) hs0)
 have LC:=zq (ledc h)
 have BK:=zq (show ¬ 1024<L.bulk -> L.accts.length <= 1024 /\ L.bulk <= 1000000 from fun hb=>by unfold Led.bulk at hb ⊢;omega)
 have CP:=zq (fun W (hb:Below w.heap.size w W) (hk:L.bulk <= 1000000)=>rcopy_any W V L (h.below hb) hk hs0.cash)
 unfold LedV.val at WD CP ⊢
 unfold Cal.cells
 obtain⟨C,hC⟩:∃ C,C=V.cells L:=⟨_,rfl⟩
 have EC:=zq hC
 rw[<- hC] at WD LC CP ⊢
 obtain⟨BB,hBB⟩:∃ B,B=decide (1024<L.bulk):=⟨_,rfl⟩
 rw[<- hBB] at WD
 have HB:=zq hBB
 obtain⟨W0,hW0⟩:∃ s,s=(w.alloc (.cells C 31)).alloc (.cells #[.int .i64 c.kind,.int .i64 c.a,.int .i64 c.b,.int .i64 c.c,.string c.u.name,.int .i64 c.u.cur,.int .i64 c.u.price,.int .i64 c.u.vol,.int .i64 c.i.kind,.int .i64 c.i.under,.int .i64 c.i.mult,.int .i64 c.i.strike,.int .i64 c.i.expiry,.bool c.i.call,.int .i64 c.i.mark] 51):=⟨_,rfl⟩
 obtain⟨b0,hb0⟩:∃ n,n=w.heap.size:=⟨_,rfl⟩
 have X0:=zq (show At w W0 [(b0, 31,C),(b0+1, 51,#[.int .i64 c.kind,.int .i64 c.a,.int .i64 c.b,.int .i64 c.c,.string c.u.name,.int .i64 c.u.cur,.int .i64 c.u.price,.int .i64 c.u.vol,.int .i64 c.i.kind,.int .i64 c.i.under,.int .i64 c.i.mult,.int .i64 c.i.strike,.int .i64 c.i.expiry,.bool c.i.call,.int .i64 c.i.mark])] from by
  have a:=(((At.start w).alloc 31 C).alloc 51 #[.int .i64 c.kind,.int .i64 c.a,.int .i64 c.b,.int .i64 c.c,.string c.u.name,.int .i64 c.u.cur,.int .i64 c.u.price,.int .i64 c.u.vol,.int .i64 c.i.kind,.int .i64 c.i.under,.int .i64 c.i.mult,.int .i64 c.i.strike,.int .i64 c.i.expiry,.bool c.i.call,.int .i64 c.i.mark])
  have e:∀ (w:World) (o:Obj),(w.alloc o).heap.size=w.heap.size+1:=fun w o=>by simp
  simp only[e] at a
  rw[<- hW0,<- hb0] at a
  exact a)
 clear h hs0 hG hC hBB hu hx
 go_enter Tryz.func8,Tryz.ntmps8
 go_upto_region 1 with (fail)
 rw[<- hW0,<- hb0]
 clear hW0 hb0
 go_wp2_with fail
 refine (WK.o W0 X0.o.low).mono ?_
 rintro e w1 ⟨rfl,hb⟩
 have X1:=zq (X0.o.go hb)
 clear hb X0
 go_wp2_with (refine led_load (X1.o.get 0 rfl) LC.o rfl rfl rfl ?_)
 refine (WD.o w1 X1.o.low).mono ?_
 rintro e w2 ⟨rfl,hb⟩
 have X2:=zq (X1.o.go hb)
 clear hb X1
 cases hbb:BB with
 | true =>
   subst hbb
   go_wp2_with fail
   go_ret
   exact⟨rfl,X2.o.low⟩
 | false =>
   subst hbb
   have HL:=zq (BK.o (of_decide_eq_false HB.o.symm))
   go_wp2_with (refine led_load (X2.o.get 0 rfl) LC.o rfl rfl rfl ?_)
   refine (CP.o w2 X2.o.low HL.o.2).mono ?_
   rintro e u ⟨V1,rfl,own,hb⟩
   have Y:=zq (X2.o.go hb)
   have OM:=zq own
   have LM:=zq (ledc own.led)
   unfold LedV.val
   obtain⟨C5,hC5⟩:∃ c,c=V1.cells L:=⟨_,rfl⟩
   have E5:=zq hC5
   rw[<- hC5] at LM ⊢
   clear own hb hC5 CP
   go_upto_region 6 with (refine led_store (heap_alloc_last _ _) ledc0 LM.o rfl rfl rfl rfl ?_;rw[World.setRow_alloc_new])
   obtain⟨W4,hW4⟩:∃ s,s=u.alloc (.cells C5 31):=⟨_,rfl⟩
   obtain⟨b5,hb5⟩:∃ n,n=u.heap.size:=⟨_,rfl⟩
   have X4:=zq (show At w W4 [(b0, 31,C),(b0+1, 51,#[.int .i64 c.kind,.int .i64 c.a,.int .i64 c.b,.int .i64 c.c,.string c.u.name,.int .i64 c.u.cur,.int .i64 c.u.price,.int .i64 c.u.vol,.int .i64 c.i.kind,.int .i64 c.i.under,.int .i64 c.i.mult,.int .i64 c.i.strike,.int .i64 c.i.expiry,.bool c.i.call,.int .i64 c.i.mark]),(b5, 31,C5)] from by rw[hW4,hb5];exact Y.o.alloc _ _)
   have OM4:=zq (show LedOwn W4 w2.heap.size V1 L from by rw[hW4];exact OM.o.below ((Below.refl _ _).alloc (Nat.le_refl _) _))
   rw[<- hW4,<- hb5]
   clear hW4 hb5 Y OM
   obtain⟨M,num,er,hM⟩:∃ M num er,admA L (c.adm L)=(M,num,er):=⟨_,_,_,rfl⟩
   have SM:=zq (show M.Short /\ M.bulk <= 1000000 /\ ∀ a∈M.accts,a.cash.length <= 4 from by have h1:=admA_short L (c.adm L);have h2:=admA_bulk (L:=L) (c:=c);rw[hM] at h1 h2;exact⟨h1,h2⟩)
   have AF:=zq (fun W (hb:Below W4.heap.size W4 W)=>after_any W V1 L (OM4.o.led.below hb) HL.o.1 (GR.o W (X4.o.go hb).low) c HX.o.1 HX.o.2)
   rw[hM] at AF
   unfold LedV.val Cal.cells at AF
   rw[<- E5.o] at AF
   clear hM
   have CA:=zq (AF.o W4 (Below.refl _ _))
   have z0:W4.cell? ⟨b0+1,0,none⟩=some (.int .i64 c.kind):=X4.o.cell 1 rfl 0 rfl
   have z1:W4.cell? ⟨b0+1,1,none⟩=some (.int .i64 c.a):=X4.o.cell 1 rfl 1 rfl
   have z2:W4.cell? ⟨b0+1,2,none⟩=some (.int .i64 c.b):=X4.o.cell 1 rfl 2 rfl
   have z3:W4.cell? ⟨b0+1,3,none⟩=some (.int .i64 c.c):=X4.o.cell 1 rfl 3 rfl
   have z4:W4.cell? ⟨b0+1,4,none⟩=some (.string c.u.name):=X4.o.cell 1 rfl 4 rfl
   have z5:W4.cell? ⟨b0+1,5,none⟩=some (.int .i64 c.u.cur):=X4.o.cell 1 rfl 5 rfl
   have z6:W4.cell? ⟨b0+1,6,none⟩=some (.int .i64 c.u.price):=X4.o.cell 1 rfl 6 rfl
   have z7:W4.cell? ⟨b0+1,7,none⟩=some (.int .i64 c.u.vol):=X4.o.cell 1 rfl 7 rfl
   have z8:W4.cell? ⟨b0+1,8,none⟩=some (.int .i64 c.i.kind):=X4.o.cell 1 rfl 8 rfl
   have z9:W4.cell? ⟨b0+1,9,none⟩=some (.int .i64 c.i.under):=X4.o.cell 1 rfl 9 rfl
   have z10:W4.cell? ⟨b0+1,10,none⟩=some (.int .i64 c.i.mult):=X4.o.cell 1 rfl 10 rfl
   have z11:W4.cell? ⟨b0+1,11,none⟩=some (.int .i64 c.i.strike):=X4.o.cell 1 rfl 11 rfl
   have z12:W4.cell? ⟨b0+1,12,none⟩=some (.int .i64 c.i.expiry):=X4.o.cell 1 rfl 12 rfl
   have z13:W4.cell? ⟨b0+1,13,none⟩=some (.bool c.i.call):=X4.o.cell 1 rfl 13 rfl
   have z14:W4.cell? ⟨b0+1,14,none⟩=some (.int .i64 c.i.mark):=X4.o.cell 1 rfl 14 rfl
   go_wp2_with (refine led_load (X4.o.get 2 rfl) LM.o rfl rfl rfl ?_)
   refine CA.o.mono ?_
   rintro e u6 ⟨U6,rfl,own,hb⟩
   have Y6:=zq (X4.o.go hb)
   have OW6:=zq own
   have BL6:=zq hb
   have LU6:=zq (ledc own.led)
   unfold LedV.val
   clear own hb z0 z1 z2 z3 z4 z5 z6 z7 z8 z9 z10 z11 z12 z13 z14
   go_simp
   have OM6:=zq (OM4.o.below BL6.o)
   obtain⟨C6,hC6⟩:∃ c,c=U6.cells M:=⟨_,rfl⟩
   have E6:=zq hC6
   rw[<- hC6] at LU6 ⊢
   clear hC6 CA
   go_upto_region 7 with (refine led_store (heap_alloc_last _ _) ledc0 LU6.o rfl rfl rfl rfl ?_;rw[World.setRow_alloc_new])
   obtain⟨W6,hW6⟩:∃ s,s=u6.alloc (.cells C6 31):=⟨_,rfl⟩
   obtain⟨b6,hb6⟩:∃ n,n=u6.heap.size:=⟨_,rfl⟩
   have N6:=zq (show Below u6.heap.size u6 W6 from by rw[hW6];exact (Below.refl _ _).alloc (Nat.le_refl _) _)
   have X6:=zq (show At w W6 [(b0, 31,C),(b0+1, 51,#[.int .i64 c.kind,.int .i64 c.a,.int .i64 c.b,.int .i64 c.c,.string c.u.name,.int .i64 c.u.cur,.int .i64 c.u.price,.int .i64 c.u.vol,.int .i64 c.i.kind,.int .i64 c.i.under,.int .i64 c.i.mult,.int .i64 c.i.strike,.int .i64 c.i.expiry,.bool c.i.call,.int .i64 c.i.mark]),(b5, 31,C5),(b6, 31,C6)] from by rw[hW6,hb6];exact Y6.o.alloc _ _)
   have OMb:=zq (OM6.o.below N6.o)
   have OAb:=zq (OW6.o.below N6.o)
   have SZ:=zq (show w.heap.size <= W4.heap.size /\ b0<W4.heap.size /\ b0+1<W4.heap.size /\ b5<W4.heap.size /\ b6=u6.heap.size /\ u6.heap.size <= W6.heap.size from ⟨X4.o.low.size,X4.o.lt (b0, 31,C) (by simp),X4.o.lt (b0+1, 51,#[.int .i64 c.kind,.int .i64 c.a,.int .i64 c.b,.int .i64 c.c,.string c.u.name,.int .i64 c.u.cur,.int .i64 c.u.price,.int .i64 c.u.vol,.int .i64 c.i.kind,.int .i64 c.i.under,.int .i64 c.i.mult,.int .i64 c.i.strike,.int .i64 c.i.expiry,.bool c.i.call,.int .i64 c.i.mark]) (by simp),X4.o.lt (b5, 31,C5) (by simp),hb6,N6.o.size⟩)
   rw[<- hW6,<- hb6]
   clear hW6 hb6 OM6
   have CA:=zq (AF.o W6 (BL6.o.trans (N6.o.mono BL6.o.size)))
   have z0:W6.cell? ⟨b0+1,0,none⟩=some (.int .i64 c.kind):=X6.o.cell 1 rfl 0 rfl
   have z1:W6.cell? ⟨b0+1,1,none⟩=some (.int .i64 c.a):=X6.o.cell 1 rfl 1 rfl
   have z2:W6.cell? ⟨b0+1,2,none⟩=some (.int .i64 c.b):=X6.o.cell 1 rfl 2 rfl
   have z3:W6.cell? ⟨b0+1,3,none⟩=some (.int .i64 c.c):=X6.o.cell 1 rfl 3 rfl
   have z4:W6.cell? ⟨b0+1,4,none⟩=some (.string c.u.name):=X6.o.cell 1 rfl 4 rfl
   have z5:W6.cell? ⟨b0+1,5,none⟩=some (.int .i64 c.u.cur):=X6.o.cell 1 rfl 5 rfl
   have z6:W6.cell? ⟨b0+1,6,none⟩=some (.int .i64 c.u.price):=X6.o.cell 1 rfl 6 rfl
   have z7:W6.cell? ⟨b0+1,7,none⟩=some (.int .i64 c.u.vol):=X6.o.cell 1 rfl 7 rfl
   have z8:W6.cell? ⟨b0+1,8,none⟩=some (.int .i64 c.i.kind):=X6.o.cell 1 rfl 8 rfl
   have z9:W6.cell? ⟨b0+1,9,none⟩=some (.int .i64 c.i.under):=X6.o.cell 1 rfl 9 rfl
   have z10:W6.cell? ⟨b0+1,10,none⟩=some (.int .i64 c.i.mult):=X6.o.cell 1 rfl 10 rfl
   have z11:W6.cell? ⟨b0+1,11,none⟩=some (.int .i64 c.i.strike):=X6.o.cell 1 rfl 11 rfl
   have z12:W6.cell? ⟨b0+1,12,none⟩=some (.int .i64 c.i.expiry):=X6.o.cell 1 rfl 12 rfl
   have z13:W6.cell? ⟨b0+1,13,none⟩=some (.bool c.i.call):=X6.o.cell 1 rfl 13 rfl
   have z14:W6.cell? ⟨b0+1,14,none⟩=some (.int .i64 c.i.mark):=X6.o.cell 1 rfl 14 rfl
   go_wp2_with (refine led_load (X6.o.get 2 rfl) LM.o rfl rfl rfl ?_)
   refine CA.o.mono ?_
   rintro e u8 ⟨U8,rfl,own,hb⟩
   have Y8:=zq (X6.o.go hb)
   have OW8:=zq own
   have BL8:=zq hb
   have LU8:=zq (ledc own.led)
   unfold LedV.val
   clear own hb z0 z1 z2 z3 z4 z5 z6 z7 z8 z9 z10 z11 z12 z13 z14
   go_simp
   have OM8:=zq (OMb.o.below BL8.o)
   have OA8:=zq (OAb.o.below BL8.o)
   obtain⟨C8,hC8⟩:∃ c,c=U8.cells M:=⟨_,rfl⟩
   have E8:=zq hC8
   rw[<- hC8] at LU8 ⊢
   clear hC8 CA AF OMb OAb
   go_upto_region 8 with (refine led_store (heap_alloc_last _ _) ledc0 LU8.o rfl rfl rfl rfl ?_;rw[World.setRow_alloc_new])
   obtain⟨WA,hWA⟩:∃ s,s=u8.alloc (.cells C8 31):=⟨_,rfl⟩
   obtain⟨b8,hb8⟩:∃ n,n=u8.heap.size:=⟨_,rfl⟩
   have NA:=zq (show Below u8.heap.size u8 WA from by rw[hWA];exact (Below.refl _ _).alloc (Nat.le_refl _) _)
   have XA:=zq (show At w WA [(b0, 31,C),(b0+1, 51,#[.int .i64 c.kind,.int .i64 c.a,.int .i64 c.b,.int .i64 c.c,.string c.u.name,.int .i64 c.u.cur,.int .i64 c.u.price,.int .i64 c.u.vol,.int .i64 c.i.kind,.int .i64 c.i.under,.int .i64 c.i.mult,.int .i64 c.i.strike,.int .i64 c.i.expiry,.bool c.i.call,.int .i64 c.i.mark]),(b5, 31,C5),(b6, 31,C6),(b8, 31,C8)] from by rw[hWA,hb8];exact Y8.o.alloc _ _)
   have OMA:=zq (OM8.o.below NA.o)
   have OAA:=zq (OA8.o.below NA.o)
   have OBA:=zq (OW8.o.below NA.o)
   have SZ2:=zq (show b8=u8.heap.size /\ W6.heap.size <= u8.heap.size /\ u8.heap.size<WA.heap.size from ⟨hb8,BL8.o.size,by rw[<- hb8];exact XA.o.lt (b8, 31,C8) (by simp)⟩)
   rw[<- hWA,<- hb8]
   clear hWA hb8 Y8 OM8 OA8
   have SL:=zq (rsame_any WA V1 V L L OMA.o.led (HH.o WA XA.o.low) SH.o)
   rw[eqB_yes rfl] at SL
   unfold LedV.val at SL
   rw[<- E5.o,<- EC.o] at SL
   go_wp2_with (first|refine led_load (XA.o.get 2 rfl) LM.o rfl rfl rfl ?_|refine led_load (XA.o.get 0 rfl) LC.o rfl rfl rfl ?_)
   refine SL.o.mono ?_
   rintro e wB ⟨rfl,hb⟩
   have XB:=zq (XA.o.go hb)
   have OMB:=zq (OMA.o.below hb)
   have OAB:=zq (OAA.o.below hb)
   have OBB:=zq (OBA.o.below hb)
   have SB1:=zq hb.size
   clear hb SL OMA OAA OBA XA
   have SB:=zq (rsame_any wB U6 U8 M M OAB.o.led OBB.o.led SM.o.1)
   rw[eqB_yes rfl] at SB
   unfold LedV.val at SB
   rw[<- E6.o,<- E8.o] at SB
   go_wp2_with (first|refine led_loadg (XB.o.get 3 rfl) LU6.o (by rfl) rfl rfl ?_|refine led_loadg (XB.o.get 4 rfl) LU8.o (by rfl) rfl rfl ?_)
   refine SB.o.mono ?_
   rintro e wC ⟨rfl,hb⟩
   have XC:=zq (XB.o.go hb)
   have OMC:=zq (OMB.o.below hb)
   have OAC:=zq (OAB.o.below hb)
   have OBC:=zq (OBB.o.below hb)
   have SC1:=zq hb.size
   clear hb SB OMB OAB OBB XB
   have CW:=zq (rcopy_any wC U8 M OBC.o.led SM.o.2.1 (fun a ha=>by have:=SM.o.2.2 a ha;omega))
   unfold LedV.val at CW
   rw[<- E8.o] at CW
   go_wp2_with (refine led_load (XC.o.get 4 rfl) LU8.o rfl rfl rfl ?_)
   refine CW.o.mono ?_
   rintro e wD ⟨U3,rfl,own,hb⟩
   have XD:=zq (XC.o.go hb)
   have OMD:=zq (OMC.o.below hb)
   have OAD:=zq (OAC.o.below hb)
   have OBD:=zq (OBC.o.below hb)
   have OWD:=zq own
   have LW:=zq (ledc own.led)
   have SC:=zq (show u8.heap.size<wC.heap.size /\ wC.heap.size <= wD.heap.size from ⟨by have:=SB1.o;have:=SC1.o;have:=SZ2.o.2.2;omega,hb.size⟩)
   unfold LedV.val
   obtain⟨C10,hC10⟩:∃ c,c=U3.cells M:=⟨_,rfl⟩
   have E10:=zq hC10
   rw[<- hC10] at LW ⊢
   clear own hC10 hb CW XC OMC OAC OBC
   go_upto_region 11 with (refine led_store (heap_alloc_last _ _) ledc0 LW.o rfl rfl rfl rfl ?_;rw[World.setRow_alloc_new])
   obtain⟨WE,hWE⟩:∃ s,s=wD.alloc (.cells C10 31):=⟨_,rfl⟩
   obtain⟨b10,hb10⟩:∃ n,n=wD.heap.size:=⟨_,rfl⟩
   have NE:=zq (show Below wD.heap.size wD WE from by rw[hWE];exact (Below.refl _ _).alloc (Nat.le_refl _) _)
   have KZ:=zq (show KAt w W4.heap.size u6.heap.size [(b0, 31,C),(b0+1, 51,#[.int .i64 c.kind,.int .i64 c.a,.int .i64 c.b,.int .i64 c.c,.string c.u.name,.int .i64 c.u.cur,.int .i64 c.u.price,.int .i64 c.u.vol,.int .i64 c.i.kind,.int .i64 c.i.under,.int .i64 c.i.mult,.int .i64 c.i.strike,.int .i64 c.i.expiry,.bool c.i.call,.int .i64 c.i.mark]),(b5, 31,C5),(b6, 31,C6),(b8, 31,C8),(b10, 31,C10)] V1 L U6 M U8 U3 WE from
    ⟨by rw[hWE,hb10];exact XD.o.alloc _ _,OMD.o.led.below NE.o,OBD.o.led.below NE.o,OWD.o.led.below NE.o,U6,M,⟨OAD.o.below NE.o,OW6.o.rows_lt,rfl,rfl,rfl,rfl,rfl,rfl,rfl,rfl,rfl,rfl,rfl,rfl,rfl,rfl,rfl,rfl⟩⟩)
   have KK:=zq (show KC w W4.heap.size u6.heap.size [(b0, 31,C),(b0+1, 51,#[.int .i64 c.kind,.int .i64 c.a,.int .i64 c.b,.int .i64 c.c,.string c.u.name,.int .i64 c.u.cur,.int .i64 c.u.price,.int .i64 c.u.vol,.int .i64 c.i.kind,.int .i64 c.i.under,.int .i64 c.i.mult,.int .i64 c.i.strike,.int .i64 c.i.expiry,.bool c.i.call,.int .i64 c.i.mark]),(b5, 31,C5),(b6, 31,C6),(b8, 31,C8),(b10, 31,C10)] V1 U8 U3 from by
    have h1:=SZ.o
    have h2:=SZ2.o
    have h3:=SC.o
    refine⟨h1.1,fun x hx=>?_,OM4.o.rows_lt,fun x hx k hk=>by have:=OW8.o.rows_ge x hx k hk;omega,fun x hx k hk=>by have:=OWD.o.rows_ge x hx k hk;omega⟩
    simp at hx
    rcases hx with rfl|rfl|rfl|rfl|rfl|rfl <;> simp <;> omega)
   rw[<- hWE,<- hb10]
   clear hWE hb10 NE XD OMD OAD OBD OWD
   obtain⟨n1,hn1⟩:∃ n,n=M.curs.length:=⟨_,rfl⟩
   obtain⟨n2,hn2⟩:∃ n,n=M.unders.length:=⟨_,rfl⟩
   obtain⟨n3,hn3⟩:∃ n,n=M.instrs.length:=⟨_,rfl⟩
   obtain⟨n4,hn4⟩:∃ n,n=M.accts.length:=⟨_,rfl⟩
   obtain⟨n7,hn7⟩:∃ n,n=M.avail.length:=⟨_,rfl⟩
   have hnm:n1 <= 1000000 /\ n2 <= 1000000 /\ n3 <= 1000000 /\ n4 <= 1000000 /\ n7 <= 1000000:=by have h:=SM.o.2.1;unfold Led.bulk at h;omega
   obtain⟨m1,m2,m3,m4,m7⟩:=hnm
   obtain⟨a1,c1,h1⟩:=slice_of OW6.o.led.curs hn1
   obtain⟨a2,c2,h2⟩:=slice_of OW6.o.led.unders hn2
   obtain⟨a3,c3,h3⟩:=slice_of OW6.o.led.instrs hn3
   obtain⟨a4,c4,h4⟩:=slice_of OW6.o.led.accts (hn4.trans (by rw[OW6.o.same,List.length_map]))
   obtain⟨a7,c7,h7⟩:=slice_of OW6.o.led.avail hn7
   have N1:=zq hn1
   have F1:=zq h1
   have G1:=zq (show C6[1]?=some (.slice a1 n1 c1) from by rw[E6.o,<- h1];rfl)
   have N2:=zq hn2
   have F2:=zq h2
   have G2:=zq (show C6[2]?=some (.slice a2 n2 c2) from by rw[E6.o,<- h2];rfl)
   have N3:=zq hn3
   have F3:=zq h3
   have G3:=zq (show C6[3]?=some (.slice a3 n3 c3) from by rw[E6.o,<- h3];rfl)
   have N4:=zq hn4
   have F4:=zq h4
   have G4:=zq (show C6[4]?=some (.slice a4 n4 c4) from by rw[E6.o,<- h4];rfl)
   have N7:=zq hn7
   have F7:=zq h7
   have G7:=zq (show C6[7]?=some (.slice a7 n7 c7) from by rw[E6.o,<- h7];rfl)
   clear hn1 h1 hn2 h2 hn3 h3 hn4 h4 hn7 h7 OM4 OW6 OW8 X2 X4 X6 Y6 N6 NA BL6 BL8
   have y4:WE.cell? ⟨b6,4,none⟩=some (.slice a4 n4 c4):=KZ.o.at_.cell 3 rfl 4 G4.o
   go_wp2_with fail
   go_loopw [50] (fun i wr=>∃ k:Nat,k <= n4 /\ i=.int .i64 k /\ ∃ W,W=wr /\ Hid (KAt w W4.heap.size u6.heap.size [(b0, 31,C),(b0+1, 51,#[.int .i64 c.kind,.int .i64 c.a,.int .i64 c.b,.int .i64 c.c,.string c.u.name,.int .i64 c.u.cur,.int .i64 c.u.price,.int .i64 c.u.vol,.int .i64 c.i.kind,.int .i64 c.i.under,.int .i64 c.i.mult,.int .i64 c.i.strike,.int .i64 c.i.expiry,.bool c.i.call,.int .i64 c.i.mark]),(b5, 31,C5),(b6, 31,C6),(b8, 31,C8),(b10, 31,C10)] V1 L U6 M U8 U3 W)) (fun i _=>n4 - (intOf i).toNat)
   case atStart=>exact⟨0,Nat.zero_le _,rfl,_,rfl,KZ⟩
   case round =>
    clear KZ y4
    obtain⟨k,hk,rfl,W,rfl,KZ⟩:=hrel
    by_cases hlt:k<n4
    ·have hlt':(k:Int)<(n4:Int):=by omega
     have LT_:=zq hlt
     obtain⟨g,pa,n,pc,ea,yc,hn,KI⟩:=KZ.o.inn (a:=a4) (c:=c4) (by rw[<- N4.o];exact hlt) (by rw[<- N4.o];exact F4.o)
     subst ea
     have HI:=zq KI
     have y4:W.cell? ⟨b6,4,none⟩=some (.slice (some ⟨g,0,none⟩) n4 c4):=KZ.o.at_.cell 3 rfl 4 G4.o
     have hn':n <= 9223372036854775807:=hn
     clear KI KZ hn
     go_wp2_with fail
     clear yc y4
     go_loopw [60] (fun i wr=>∃ j:Nat,j <= n /\ i=.int .i64 j /\ ∃ pa W,W=wr /\ Hid (KIn w W4.heap.size u6.heap.size [(b0, 31,C),(b0+1, 51,#[.int .i64 c.kind,.int .i64 c.a,.int .i64 c.b,.int .i64 c.c,.string c.u.name,.int .i64 c.u.cur,.int .i64 c.u.price,.int .i64 c.u.vol,.int .i64 c.i.kind,.int .i64 c.i.under,.int .i64 c.i.mult,.int .i64 c.i.strike,.int .i64 c.i.expiry,.bool c.i.call,.int .i64 c.i.mark]),(b5, 31,C5),(b6, 31,C6),(b8, 31,C8),(b10, 31,C10)] V1 L U6 M U8 U3 k n pa pc W)) (fun i _=>n - (intOf i).toNat)
     case atStart=>exact⟨0,Nat.zero_le _,rfl,_,_,rfl,HI⟩
     case round =>
      clear HI
      obtain⟨j,hj,rfl,pa,W,rfl,KI⟩:=hrel
      by_cases hjt:j<n
      ·have hjt':(j:Int)<(n:Int):=by omega
       have JT:=zq hjt
       obtain⟨gp,y,e,z1,z2,z3,z4⟩:=KI.o.put (c:=c4) (x:=-9) KK.o hjt (by rw[<- N4.o];exact F4.o) (by omega)
       subst e
       have ZN:=zq z4
       have y4:W.cell? ⟨b6,4,none⟩=some (.slice (some ⟨g,0,none⟩) n4 c4):=KI.o.1.at_.cell 3 rfl 4 G4.o
       clear z4
       go_wp2_with fail
       go_roundw
       case rel=>exact⟨j+1,by have:=JT.o;omega,by go_num,_,_,rfl,ZN⟩
       case measure=>have:=JT.o;simp[intOf];omega
      ·have hjt':¬ (j:Int)<(n:Int):=by omega
       obtain⟨g',eg,⟨u0,v1,v2,v3,u2,u3,d0,d1,d2,d3⟩,zf,KB⟩:=KI.o.1.blank (a:=some ⟨g,0,none⟩) (c:=c4) KK.o (by rw[<- N4.o];exact LT_.o) (by rw[<- N4.o];exact F4.o)
       obtain rfl:g=g':=by injection eg with eg;injection eg
       have HBk:=zq KB
       have y4:W.cell? ⟨b6,4,none⟩=some (.slice (some ⟨g,0,none⟩) n4 c4):=KI.o.1.at_.cell 3 rfl 4 G4.o
       clear KB eg
       go_wp2_with fail
       go_roundw
       case rel=>exact⟨k+1,by have:=LT_.o;omega,by go_num,_,rfl,HBk⟩
       case measure=>have:=LT_.o;simp[intOf];omega
    ·have hlt':¬ (k:Int)<(n4:Int):=by omega
     obtain rfl:n4=k:=by omega
     have y5:W.cell? ⟨b6,2,none⟩=some (.slice a2 n2 c2):=KZ.o.at_.cell 3 rfl 2 G2.o
     go_wp2_with fail
     go_loopw [81] (fun i wr=>∃ k:Nat,k <= n2 /\ i=.int .i64 k /\ ∃ W,W=wr /\ Hid (KAt w W4.heap.size u6.heap.size [(b0, 31,C),(b0+1, 51,#[.int .i64 c.kind,.int .i64 c.a,.int .i64 c.b,.int .i64 c.c,.string c.u.name,.int .i64 c.u.cur,.int .i64 c.u.price,.int .i64 c.u.vol,.int .i64 c.i.kind,.int .i64 c.i.under,.int .i64 c.i.mult,.int .i64 c.i.strike,.int .i64 c.i.expiry,.bool c.i.call,.int .i64 c.i.mark]),(b5, 31,C5),(b6, 31,C6),(b8, 31,C8),(b10, 31,C10)] V1 L U6 M U8 U3 W)) (fun i _=>n2 - (intOf i).toNat)
     case atStart=>exact⟨0,Nat.zero_le _,rfl,_,rfl,KZ⟩
     case round =>
      clear KZ y5
      obtain⟨k,hk,rfl,W,rfl,KZ⟩:=hrel
      by_cases hlt:k<n2
      ·have hlt':(k:Int)<(n2:Int):=by omega
       have LT_:=zq hlt
       obtain⟨g,ea,⟨x,d0,d1,d2,d3⟩,zf,KB⟩:=KZ.o.blank_unders (a:=a2) (c:=c2) KK.o (by rw[<- N2.o];exact hlt) (by rw[<- N2.o];exact F2.o)
       subst ea
       have HBk:=zq KB
       have y5:W.cell? ⟨b6,2,none⟩=some (.slice (some ⟨g,0,none⟩) n2 c2):=KZ.o.at_.cell 3 rfl 2 G2.o
       clear KB
       go_wp2_with fail
       go_roundw
       case rel=>exact⟨k+1,by have:=LT_.o;omega,by go_num,_,rfl,HBk⟩
       case measure=>have:=LT_.o;simp[intOf];omega
      ·have hlt':¬ (k:Int)<(n2:Int):=by omega
       obtain rfl:n2=k:=by omega
       have y5:W.cell? ⟨b6,3,none⟩=some (.slice a3 n3 c3):=KZ.o.at_.cell 3 rfl 3 G3.o
       go_wp2_with fail
       go_loopw [93] (fun i wr=>∃ k:Nat,k <= n3 /\ i=.int .i64 k /\ ∃ W,W=wr /\ Hid (KAt w W4.heap.size u6.heap.size [(b0, 31,C),(b0+1, 51,#[.int .i64 c.kind,.int .i64 c.a,.int .i64 c.b,.int .i64 c.c,.string c.u.name,.int .i64 c.u.cur,.int .i64 c.u.price,.int .i64 c.u.vol,.int .i64 c.i.kind,.int .i64 c.i.under,.int .i64 c.i.mult,.int .i64 c.i.strike,.int .i64 c.i.expiry,.bool c.i.call,.int .i64 c.i.mark]),(b5, 31,C5),(b6, 31,C6),(b8, 31,C8),(b10, 31,C10)] V1 L U6 M U8 U3 W)) (fun i _=>n3 - (intOf i).toNat)
       case atStart=>exact⟨0,Nat.zero_le _,rfl,_,rfl,KZ⟩
       case round =>
        clear KZ y5
        obtain⟨k,hk,rfl,W,rfl,KZ⟩:=hrel
        by_cases hlt:k<n3
        ·have hlt':(k:Int)<(n3:Int):=by omega
         have LT_:=zq hlt
         obtain⟨g,ea,⟨x,d0,d1,d2,d3,d4,d5,d6⟩,zf,KB⟩:=KZ.o.blank_instrs (a:=a3) (c:=c3) KK.o (by rw[<- N3.o];exact hlt) (by rw[<- N3.o];exact F3.o)
         subst ea
         have HBk:=zq KB
         have y5:W.cell? ⟨b6,3,none⟩=some (.slice (some ⟨g,0,none⟩) n3 c3):=KZ.o.at_.cell 3 rfl 3 G3.o
         clear KB
         go_wp2_with fail
         go_roundw
         case rel=>exact⟨k+1,by have:=LT_.o;omega,by go_num,_,rfl,HBk⟩
         case measure=>have:=LT_.o;simp[intOf];omega
        ·have hlt':¬ (k:Int)<(n3:Int):=by omega
         obtain rfl:n3=k:=by omega
         have y5:W.cell? ⟨b6,7,none⟩=some (.slice a7 n7 c7):=KZ.o.at_.cell 3 rfl 7 G7.o
         go_wp2_with fail
         go_loopw [105] (fun i wr=>∃ k:Nat,k <= n7 /\ i=.int .i64 k /\ ∃ W,W=wr /\ Hid (KAt w W4.heap.size u6.heap.size [(b0, 31,C),(b0+1, 51,#[.int .i64 c.kind,.int .i64 c.a,.int .i64 c.b,.int .i64 c.c,.string c.u.name,.int .i64 c.u.cur,.int .i64 c.u.price,.int .i64 c.u.vol,.int .i64 c.i.kind,.int .i64 c.i.under,.int .i64 c.i.mult,.int .i64 c.i.strike,.int .i64 c.i.expiry,.bool c.i.call,.int .i64 c.i.mark]),(b5, 31,C5),(b6, 31,C6),(b8, 31,C8),(b10, 31,C10)] V1 L U6 M U8 U3 W)) (fun i _=>n7 - (intOf i).toNat)
         case atStart=>exact⟨0,Nat.zero_le _,rfl,_,rfl,KZ⟩
         case round =>
          clear KZ y5
          obtain⟨k,hk,rfl,W,rfl,KZ⟩:=hrel
          by_cases hlt:k<n7
          ·have hlt':(k:Int)<(n7:Int):=by omega
           have LT_:=zq hlt
           obtain⟨g,ea,⟨x,d0⟩,zf,KB⟩:=KZ.o.blank_avail (a:=a7) (c:=c7) KK.o (by rw[<- N7.o];exact hlt) (by rw[<- N7.o];exact F7.o)
           subst ea
           have HBk:=zq KB
           have y5:W.cell? ⟨b6,7,none⟩=some (.slice (some ⟨g,0,none⟩) n7 c7):=KZ.o.at_.cell 3 rfl 7 G7.o
           clear KB
           go_wp2_with fail
           go_roundw
           case rel=>exact⟨k+1,by have:=LT_.o;omega,by go_num,_,rfl,HBk⟩
           case measure=>have:=LT_.o;simp[intOf];omega
          ·have hlt':¬ (k:Int)<(n7:Int):=by omega
           obtain rfl:n7=k:=by omega
           have y5:W.cell? ⟨b6,1,none⟩=some (.slice a1 n1 c1):=KZ.o.at_.cell 3 rfl 1 G1.o
           go_wp2_with fail
           go_loopw [116] (fun i wr=>∃ k:Nat,k <= n1 /\ i=.int .i64 k /\ ∃ W,W=wr /\ Hid (KAt w W4.heap.size u6.heap.size [(b0, 31,C),(b0+1, 51,#[.int .i64 c.kind,.int .i64 c.a,.int .i64 c.b,.int .i64 c.c,.string c.u.name,.int .i64 c.u.cur,.int .i64 c.u.price,.int .i64 c.u.vol,.int .i64 c.i.kind,.int .i64 c.i.under,.int .i64 c.i.mult,.int .i64 c.i.strike,.int .i64 c.i.expiry,.bool c.i.call,.int .i64 c.i.mark]),(b5, 31,C5),(b6, 31,C6),(b8, 31,C8),(b10, 31,C10)] V1 L U6 M U8 U3 W)) (fun i _=>n1 - (intOf i).toNat)
           case atStart=>exact⟨0,Nat.zero_le _,rfl,_,rfl,KZ⟩
           case round =>
            clear KZ y5
            obtain⟨k,hk,rfl,W,rfl,KZ⟩:=hrel
            by_cases hlt:k<n1
            ·have hlt':(k:Int)<(n1:Int):=by omega
             have LT_:=zq hlt
             obtain⟨g,ea,⟨x,d0,d1⟩,zf,KB⟩:=KZ.o.blank_curs (a:=a1) (c:=c1) KK.o (by rw[<- N1.o];exact hlt) (by rw[<- N1.o];exact F1.o)
             subst ea
             have HBk:=zq KB
             have y5:W.cell? ⟨b6,1,none⟩=some (.slice (some ⟨g,0,none⟩) n1 c1):=KZ.o.at_.cell 3 rfl 1 G1.o
             clear KB
             go_wp2_with fail
             go_roundw
             case rel=>exact⟨k+1,by have:=LT_.o;omega,by go_num,_,rfl,HBk⟩
             case measure=>have:=LT_.o;simp[intOf];omega
            ·have hlt':¬ (k:Int)<(n1:Int):=by omega
             obtain rfl:n1=k:=by omega
             have X:=zq KZ.o.at_
             have OM:=zq KZ.o.mine
             have OB:=zq (And.intro KZ.o.b KZ.o.want)
             clear KZ
             have SL:=zq (rsame_any W V1 V L L OM.o (HH.o W X.o.low) SH.o)
             rw[eqB_yes rfl] at SL
             unfold LedV.val at SL
             rw[<- E5.o,<- EC.o] at SL
             go_wp2_with (first|refine led_load (X.o.get 2 rfl) LM.o rfl rfl rfl ?_|refine led_load (X.o.get 0 rfl) LC.o rfl rfl rfl ?_)
             refine SL.o.mono ?_
             rintro e wF ⟨rfl,hb⟩
             have XF:=zq (X.o.go hb)
             have OBF:=zq (And.intro (OB.o.1.below hb) (OB.o.2.below hb))
             clear hb SL OM OB X
             have SB:=zq (rsame_any wF U8 U3 M M OBF.o.1 OBF.o.2 SM.o.1)
             rw[eqB_yes rfl] at SB
             unfold LedV.val at SB
             rw[<- E8.o,<- E10.o] at SB
             go_wp2_with (first|refine led_loadg (XF.o.get 4 rfl) LU8.o (by rfl) rfl rfl ?_|refine led_loadg (XF.o.get 5 rfl) LW.o (by rfl) rfl rfl ?_)
             refine SB.o.mono ?_
             rintro e wG ⟨rfl,hb⟩
             have XG:=zq (XF.o.go hb)
             clear hb
             go_wp2_with fail
             go_ret
             exact⟨rfl,XG.o.low⟩
end Go.Proofs.YtnkpdfjnjmmleaaGreatDoor
namespace Go.Proofs.YtnkpdfjnjmmleaaGreatDoor
open Go.RowKit Go.Bw Go.Maps Go.WideShapes
theorem adminKeeps_in (W:World) (n0 n1:Array Value) (V0:HasVal Tryz.prog W 31 n0.toList) (V1:HasVal Tryz.prog W 51 n1.toList) (HL:Grd W) :
 Calls Tryz.prog 8 #[.agg n0,.agg n1] W fun e w'=>e=.returned (.bool true) /\ Below W.heap.size W w':=by
 obtain⟨V,l,e,h,s⟩:=led_in V0
 obtain⟨c,rfl,hu,hx⟩:=cal_in V1
 rw[e]
 exact adminKeeps_law W V l h s HL c hu hx
end Go.Proofs.YtnkpdfjnjmmleaaGreatDoor
