/- Joined: Keep2, LifCl, LifEq, LifCm, LifWo. -/
import Derived.Test.YtfknkmlocbojhaaGreatDoorGn
import Derived.Test.YtfknkmlocbojhaaGreatDoorHp
import Derived.Test.YtfknkmlocbojhaaGreatDoorGl
import Derived.Test.YtfknkmlocbojhaaGreatDoorHe
set_option linter.unusedVariables false
set_option linter.unusedSimpArgs false
set_option maxRecDepth 100000
set_option maxHeartbeats 8000000
namespace Go.Bw
open Go.RowKit
theorem bJ.kept {w w':World} {V:aG} {l:aI} {S:Nat->Prop} (h:bJ w V l) (hm:Mod S w w') (hS:∀ k,S k->V.Ae k):bJ w' V l:=by
 have hr:∀ x∈V.rows,∀ k,x.ownBlock=some k->¬ S k:=fun x hx k hk hs=>hS k hs x hx hk
 have ha:∀ p∈V.ac,p.2∈V.rows:=fun p hp=>by
  simp only[aG.rows,List.mem_cons,List.mem_map]
  exact Or.inr (Or.inr (Or.inr (Or.inr (Or.inr (Or.inr (Or.inr (Or.inr ⟨p,hp,rfl⟩)))))))
 exact⟨h.aT.kept hm (hr _ (by simp[aG.rows])),h.ah.kept hm (hr _ (by simp[aG.rows])),h.af.kept hm (hr _ (by simp[aG.rows])),h.same,h.ai.kept hm (hr _ (by simp[aG.rows])),fun p hp=>(h.aK p hp).kept hm (hr _ (ha p hp)),
  h.aC.kept hm (hr _ (by simp[aG.rows])),h.orders.kept hm (hr _ (by simp[aG.rows])),h.aH.kept hm (hr _ (by simp[aG.rows])),h.aP.kept hm (hr _ (by simp[aG.rows])),h.names,h.nums⟩
structure KC (w:World) (Ba E:Nat) (bs:List (Nat×TypeId×Array Value)) (Vm Vb Vw:aG):Prop where
 lo:w.heap.size<=Ba
 bs:∀ x∈bs,x.1<Ba\/E<=x.1
 m:∀ x∈Vm.rows,∀ k,x.ownBlock=some k->k<Ba
 b:∀ x∈Vb.rows,∀ k,x.ownBlock=some k->E<=k
 w:∀ x∈Vw.rows,∀ k,x.ownBlock=some k->E<=k
structure KA (Ba E:Nat) (Va:aG) (M:aI) (V:aG) (l:aI) (W:World):Prop where
 own:aX W Ba V l
 lt:∀ x∈V.rows,∀ k,x.ownBlock=some k->k<E
 v1:V.aT=Va.aT
 v2:V.ah=Va.ah
 v3:V.af=Va.af
 v4:V.ai=Va.ai
 v5:V.aC=Va.aC
 v6:V.orders=Va.orders
 v7:V.aH=Va.aH
 v8:V.aP=Va.aP
 l1:l.aT.length=M.aT.length
 l2:l.ah.length=M.ah.length
 l3:l.af.length=M.af.length
 l4:l.ai.length=M.ai.length
 l5:l.aC.length=M.aC.length
 l6:l.orders.length=M.orders.length
 l7:l.aH.length=M.aH.length
 l8:l.aP.length=M.aP.length
structure rq (w:World) (Ba E:Nat) (bs:List (Nat×TypeId×Array Value)) (Vm:aG) (L:aI) (Va:aG) (M:aI) (Vb Vw:aG) (W:World):Prop where
 at_:At w W bs
 mine:bJ W Vm L
 b:bJ W Vb M
 want:bJ W Vw M
 a:∃ V l,KA Ba E Va M V l W
variable {a:Option Addr} {w W W':World} {Ba E g k j c:Nat} {bs:List (Nat×TypeId×Array Value)} {Vm Va Vb Vw V:aG} {L M l:aI}
theorem rq.go (h:rq w Ba E bs Vm L Va M Vb Vw W) (hb:Below W.heap.size W W'):rq w Ba E bs Vm L Va M Vb Vw W':=by
 obtain⟨V,l,a⟩:=h.a;exact⟨h.at_.go hb,h.mine.below hb,h.b.below hb,h.want.below hb,V,l,⟨a.own.below hb,a.lt,a.v1,a.v2,a.v3,a.v4,a.v5,a.v6,a.v7,a.v8,a.l1,a.l2,a.l3,a.l4,a.l5,a.l6,a.l7,a.l8⟩⟩
theorem rq.write (h:rq w Ba E bs Vm L Va M Vb Vw W) (K:KC w Ba E bs Vm Vb Vw) (h1:Ba<=g) (h2:g<E) (hm:Mod (fun k=>k=g) W W') (ha:∃ V l,KA Ba E Va M V l W'):rq w Ba E bs Vm L Va M Vb Vw W' :=
 ⟨h.at_.mod hm (fun k e=>by have:=K.lo;omega) (fun x hx e=>by have:=K.bs x hx;omega),h.mine.kept hm (fun k e x hx hk=>by have:=K.m x hx k hk;omega),h.b.kept hm (fun k e x hx hk=>by have:=K.b x hx k hk;omega),h.want.kept hm (fun k e x hx hk=>by have:=K.w x hx k hk;omega),ha⟩
theorem KA.block (h:KA Ba E Va M V l W) {x:Value} (hx:x∈V.rows) (hg:x.ownBlock=some g):Ba<=g/\g<E:=⟨(h.own.NR x hx g hg).1,h.lt x hx g hg⟩
theorem rq.I7 (h:rq w Ba E bs Vm L Va M Vb Vw W) (K:KC w Ba E bs Vm Vb Vw) (hk:k<M.aC.length) (hv:Va.aC=.slice a M.aC.length c) :
 ∃ g,a=some ⟨g,0,none⟩/\(∃ x:Pos,W.cell? ⟨g,k*3,none⟩=some (.int .i64 x.aJ)/\W.cell? ⟨g,k*3+1,none⟩=some (.int .i64 x.instr)/\W.cell? ⟨g,k*3+2,none⟩=some (.int .i64 x.qty))/\(∀ j,W.frozen? ⟨g,j,none⟩=false)/\rq w Ba E bs Vm L Va M Vb Vw (((W.setCell ⟨g,k*3,none⟩ (.int .i64 0)).setCell ⟨g,k*3+1,none⟩ (.int .i64 0)).setCell ⟨g,k*3+2,none⟩ (.int .i64 0)):=by
 obtain⟨V,l,A⟩:=h.a;obtain⟨x,hx⟩:∃ x,l.aC[k]?=some x:=⟨_,Zg (by rw[A.l5];exact hk)⟩;have hkl:=(List.getElem?_eq_some_iff.1 hx).1;obtain⟨g,c',e,_,_,_,hfr⟩:=A.own.aC.block hx;have e2:Va.aC=.slice (some ⟨g,0,none⟩) l.aC.length c':=by rw[<-A.v5];exact e
 have e3:=hv.symm.trans e2;injection e3 with e4 _ e5;subst e4;have hB:=A.block (x:=V.aC) (by simp[aG.rows]) (g:=g) (by rw[e];rfl);have hR:=A.own.aC.row eG (by decide);rw[e] at hR;obtain⟨b',o',e',_,hc⟩:=hR.at_ hx
 cases e'
 have hc':∀ j u,(Pos.cells x)[j]?=some u->W.cell? ⟨g,k*3+j,none⟩=some u:=fun j u hj=>by have:=hc j u hj;rwa [Nat.zero_add] at this
 refine⟨g,rfl,⟨x,hc' 0 _ rfl,hc' 1 _ rfl,hc' 2 _ rfl⟩,hfr,?_⟩;have s0:=aX.o8 A.own (g:=g) (c:=c') (k:=k) (j:=0) e (x:=x) (x':=⟨0,x.instr,x.qty⟩) (u:=.int .i64 0) hx (by decide) rfl;have s1:=aX.o8 s0.1 (g:=g) (c:=c') (k:=k) (j:=1) (by rw[e];simp) (x:=⟨0,x.instr,x.qty⟩) (x':=⟨0,0,x.qty⟩) (u:=.int .i64 0) (by simp[hkl]) (by decide) rfl;have s2:=aX.o8 s1.1 (g:=g) (c:=c') (k:=k) (j:=2) (by rw[e];simp) (x:=⟨0,0,x.qty⟩) (x':=⟨0,0,0⟩) (u:=.int .i64 0) (by simp[hkl]) (by decide) rfl
 simp only[Nat.add_zero,Nat.mul_one] at s0 s1 s2
 have M0:=((s0.2.trans s1.2 (fun _ _ h=>h)).trans s2.2 (fun _ _ h=>h));refine h.write K hB.1 hB.2 M0 ⟨V,_,s2.1,A.lt,A.v1,A.v2,A.v3,A.v4,A.v5,A.v6,A.v7,A.v8,A.l1,A.l2,A.l3,A.l4,by simpa using A.l5,A.l6,A.l7,A.l8⟩
theorem rq.IZ (h:rq w Ba E bs Vm L Va M Vb Vw W) (K:KC w Ba E bs Vm Vb Vw) (hk:k<M.aP.length) (hv:Va.aP=.slice a M.aP.length c) :
 ∃ g,a=some ⟨g,0,none⟩/\(∃ x:Pos,W.cell? ⟨g,k*3,none⟩=some (.int .i64 x.aJ)/\W.cell? ⟨g,k*3+1,none⟩=some (.int .i64 x.instr)/\W.cell? ⟨g,k*3+2,none⟩=some (.int .i64 x.qty))/\(∀ j,W.frozen? ⟨g,j,none⟩=false)/\rq w Ba E bs Vm L Va M Vb Vw (((W.setCell ⟨g,k*3,none⟩ (.int .i64 0)).setCell ⟨g,k*3+1,none⟩ (.int .i64 0)).setCell ⟨g,k*3+2,none⟩ (.int .i64 0)):=by
 obtain⟨V,l,A⟩:=h.a;obtain⟨x,hx⟩:∃ x,l.aP[k]?=some x:=⟨_,Zg (by rw[A.l8];exact hk)⟩;have hkl:=(List.getElem?_eq_some_iff.1 hx).1;obtain⟨g,c',e,_,_,_,hfr⟩:=A.own.aP.block hx;have e2:Va.aP=.slice (some ⟨g,0,none⟩) l.aP.length c':=by rw[<-A.v8];exact e
 have e3:=hv.symm.trans e2;injection e3 with e4 _ e5;subst e4;have hB:=A.block (x:=V.aP) (by simp[aG.rows]) (g:=g) (by rw[e];rfl);have hR:=A.own.aP.row eG (by decide);rw[e] at hR;obtain⟨b',o',e',_,hc⟩:=hR.at_ hx
 cases e'
 have hc':∀ j u,(Pos.cells x)[j]?=some u->W.cell? ⟨g,k*3+j,none⟩=some u:=fun j u hj=>by have:=hc j u hj;rwa [Nat.zero_add] at this
 refine⟨g,rfl,⟨x,hc' 0 _ rfl,hc' 1 _ rfl,hc' 2 _ rfl⟩,hfr,?_⟩;have s0:=aX.zo A.own (g:=g) (c:=c') (k:=k) (j:=0) e (x:=x) (x':=⟨0,x.instr,x.qty⟩) (u:=.int .i64 0) hx (by decide) rfl;have s1:=aX.zo s0.1 (g:=g) (c:=c') (k:=k) (j:=1) (by rw[e];simp) (x:=⟨0,x.instr,x.qty⟩) (x':=⟨0,0,x.qty⟩) (u:=.int .i64 0) (by simp[hkl]) (by decide) rfl;have s2:=aX.zo s1.1 (g:=g) (c:=c') (k:=k) (j:=2) (by rw[e];simp) (x:=⟨0,0,x.qty⟩) (x':=⟨0,0,0⟩) (u:=.int .i64 0) (by simp[hkl]) (by decide) rfl
 simp only[Nat.add_zero,Nat.mul_one] at s0 s1 s2
 have M0:=((s0.2.trans s1.2 (fun _ _ h=>h)).trans s2.2 (fun _ _ h=>h));refine h.write K hB.1 hB.2 M0 ⟨V,_,s2.1,A.lt,A.v1,A.v2,A.v3,A.v4,A.v5,A.v6,A.v7,A.v8,A.l1,A.l2,A.l3,A.l4,A.l5,A.l6,A.l7,by simpa using A.l8⟩
theorem rq.Dl (h:rq w Ba E bs Vm L Va M Vb Vw W) (K:KC w Ba E bs Vm Vb Vw) (hk:k<M.af.length) (hv:Va.af=.slice a M.af.length c) :
 ∃ g,a=some ⟨g,0,none⟩/\(∃ x:Ins,W.cell? ⟨g,k*7,none⟩=some (.int .i64 x.kind)/\W.cell? ⟨g,k*7+1,none⟩=some (.int .i64 x.under)/\W.cell? ⟨g,k*7+2,none⟩=some (.int .i64 x.mult)/\W.cell? ⟨g,k*7+3,none⟩=some (.int .i64 x.strike)/\W.cell? ⟨g,k*7+4,none⟩=some (.int .i64 x.aO)/\W.cell? ⟨g,k*7+5,none⟩=some (.bool x.call)/\W.cell? ⟨g,k*7+6,none⟩=some (.int .i64 x.mark))/\(∀ j,W.frozen? ⟨g,j,none⟩=false)/\rq w Ba E bs Vm L Va M Vb Vw (((((((W.setCell ⟨g,k*7,none⟩ (.int .i64 0)).setCell ⟨g,k*7+1,none⟩ (.int .i64 0)).setCell ⟨g,k*7+2,none⟩ (.int .i64 0)).setCell ⟨g,k*7+3,none⟩ (.int .i64 0)).setCell ⟨g,k*7+4,none⟩ (.int .i64 0)).setCell ⟨g,k*7+5,none⟩ (.bool false)).setCell ⟨g,k*7+6,none⟩ (.int .i64 0)):=by
 obtain⟨V,l,A⟩:=h.a;obtain⟨x,hx⟩:∃ x,l.af[k]?=some x:=⟨_,Zg (by rw[A.l3];exact hk)⟩;have hkl:=(List.getElem?_eq_some_iff.1 hx).1;obtain⟨g,c',e,_,_,_,hfr⟩:=A.own.af.block hx;have e2:Va.af=.slice (some ⟨g,0,none⟩) l.af.length c':=by rw[<-A.v3];exact e
 have e3:=hv.symm.trans e2;injection e3 with e4 _ e5;subst e4;have hB:=A.block (x:=V.af) (by simp[aG.rows]) (g:=g) (by rw[e];rfl);have hR:=A.own.af.row eX (by decide);rw[e] at hR;obtain⟨b',o',e',_,hc⟩:=hR.at_ hx
 cases e'
 have hc':∀ j u,(Ins.cells x)[j]?=some u->W.cell? ⟨g,k*7+j,none⟩=some u:=fun j u hj=>by have:=hc j u hj;rwa [Nat.zero_add] at this
 refine⟨g,rfl,⟨x,hc' 0 _ rfl,hc' 1 _ rfl,hc' 2 _ rfl,hc' 3 _ rfl,hc' 4 _ rfl,hc' 5 _ rfl,hc' 6 _ rfl⟩,hfr,?_⟩;have s0:=aX.iI A.own (g:=g) (c:=c') (k:=k) (j:=0) e (x:=x) (x':=⟨0,x.under,x.mult,x.strike,x.aO,x.call,x.mark⟩) (u:=.int .i64 0) hx (by decide) rfl;have s1:=aX.iI s0.1 (g:=g) (c:=c') (k:=k) (j:=1) (by rw[e];simp) (x:=⟨0,x.under,x.mult,x.strike,x.aO,x.call,x.mark⟩) (x':=⟨0,0,x.mult,x.strike,x.aO,x.call,x.mark⟩) (u:=.int .i64 0) (by simp[hkl]) (by decide) rfl;have s2:=aX.iI s1.1 (g:=g) (c:=c') (k:=k) (j:=2) (by rw[e];simp) (x:=⟨0,0,x.mult,x.strike,x.aO,x.call,x.mark⟩) (x':=⟨0,0,0,x.strike,x.aO,x.call,x.mark⟩) (u:=.int .i64 0) (by simp[hkl]) (by decide) rfl;have s3:=aX.iI s2.1 (g:=g) (c:=c') (k:=k) (j:=3) (by rw[e];simp) (x:=⟨0,0,0,x.strike,x.aO,x.call,x.mark⟩) (x':=⟨0,0,0,0,x.aO,x.call,x.mark⟩) (u:=.int .i64 0) (by simp[hkl]) (by decide) rfl;have s4:=aX.iI s3.1 (g:=g) (c:=c') (k:=k) (j:=4) (by rw[e];simp) (x:=⟨0,0,0,0,x.aO,x.call,x.mark⟩) (x':=⟨0,0,0,0,0,x.call,x.mark⟩) (u:=.int .i64 0) (by simp[hkl]) (by decide) rfl;have s5:=aX.iI s4.1 (g:=g) (c:=c') (k:=k) (j:=5) (by rw[e];simp) (x:=⟨0,0,0,0,0,x.call,x.mark⟩) (x':=⟨0,0,0,0,0,false,x.mark⟩) (u:=.bool false) (by simp[hkl]) (by decide) rfl;have s6:=aX.iI s5.1 (g:=g) (c:=c') (k:=k) (j:=6) (by rw[e];simp) (x:=⟨0,0,0,0,0,false,x.mark⟩) (x':=⟨0,0,0,0,0,false,0⟩) (u:=.int .i64 0) (by simp[hkl]) (by decide) rfl
 simp only[Nat.add_zero,Nat.mul_one] at s0 s1 s2 s3 s4 s5 s6
 have M0:=((((((s0.2.trans s1.2 (fun _ _ h=>h)).trans s2.2 (fun _ _ h=>h)).trans s3.2 (fun _ _ h=>h)).trans s4.2 (fun _ _ h=>h)).trans s5.2 (fun _ _ h=>h)).trans s6.2 (fun _ _ h=>h));refine h.write K hB.1 hB.2 M0 ⟨V,_,s6.1,A.lt,A.v1,A.v2,A.v3,A.v4,A.v5,A.v6,A.v7,A.v8,A.l1,A.l2,by simpa using A.l3,A.l4,A.l5,A.l6,A.l7,A.l8⟩
theorem rq.EJ (h:rq w Ba E bs Vm L Va M Vb Vw W) (K:KC w Ba E bs Vm Vb Vw) (hk:k<M.aH.length) (hv:Va.aH=.slice a M.aH.length c) :
 ∃ g,a=some ⟨g,0,none⟩/\(∃ x:Int,W.cell? ⟨g,k,none⟩=some (.int .i64 x))/\(∀ j,W.frozen? ⟨g,j,none⟩=false)/\rq w Ba E bs Vm L Va M Vb Vw (W.setCell ⟨g,k,none⟩ (.int .i64 (-9))):=by
 obtain⟨V,l,A⟩:=h.a;obtain⟨x,hx⟩:∃ x,l.aH[k]?=some x:=⟨_,Zg (by rw[A.l7];exact hk)⟩;have hkl:=(List.getElem?_eq_some_iff.1 hx).1;obtain⟨g,c',e,_,_,_,hfr⟩:=A.own.aH.block hx;have e2:Va.aH=.slice (some ⟨g,0,none⟩) l.aH.length c':=by rw[<-A.v7];exact e
 have e3:=hv.symm.trans e2;injection e3 with e4 _ e5;subst e4;have hB:=A.block (x:=V.aH) (by simp[aG.rows]) (g:=g) (by rw[e];rfl);have hR:=A.own.aH.row gQ (by decide);rw[e] at hR;obtain⟨b',o',e',_,hc⟩:=hR.at_ hx
 cases e'
 have hc':∀ j u,(dn x)[j]?=some u->W.cell? ⟨g,k+j,none⟩=some u:=fun j u hj=>by have:=hc j u hj;rwa [Nat.zero_add,Nat.mul_one] at this
 refine⟨g,rfl,⟨x,hc' 0 _ rfl⟩,hfr,?_⟩;have s0:=aX.Cf A.own (g:=g) (c:=c') (k:=k) e (x:=x) (x':=-9) (u:=.int .i64 (-9)) hx rfl;have M0:=s0.2;refine h.write K hB.1 hB.2 M0 ⟨V,_,s0.1,A.lt,A.v1,A.v2,A.v3,A.v4,A.v5,A.v6,A.v7,A.v8,A.l1,A.l2,A.l3,A.l4,A.l5,A.l6,by simpa using A.l7,A.l8⟩
theorem rq.Dn (h:rq w Ba E bs Vm L Va M Vb Vw W) (K:KC w Ba E bs Vm Vb Vw) (hk:k<M.ah.length) (hv:Va.ah=.slice a M.ah.length c) :
 ∃ g,a=some ⟨g,0,none⟩/\(∃ x:fU,W.cell? ⟨g,k*4,none⟩=some (.string x.name)/\W.cell? ⟨g,k*4+1,none⟩=some (.int .i64 x.cur)/\W.cell? ⟨g,k*4+2,none⟩=some (.int .i64 x.price)/\W.cell? ⟨g,k*4+3,none⟩=some (.int .i64 x.dI))/\(∀ j,W.frozen? ⟨g,j,none⟩=false)/\rq w Ba E bs Vm L Va M Vb Vw ((((W.setCell ⟨g,k*4,none⟩ (.string ⟨#[]⟩)).setCell ⟨g,k*4+1,none⟩ (.int .i64 0)).setCell ⟨g,k*4+2,none⟩ (.int .i64 0)).setCell ⟨g,k*4+3,none⟩ (.int .i64 0)):=by
 obtain⟨V,l,A⟩:=h.a;obtain⟨x,hx⟩:∃ x,l.ah[k]?=some x:=⟨_,Zg (by rw[A.l2];exact hk)⟩;have hkl:=(List.getElem?_eq_some_iff.1 hx).1;obtain⟨g,c',e,_,_,_,hfr⟩:=A.own.ah.block hx;have e2:Va.ah=.slice (some ⟨g,0,none⟩) l.ah.length c':=by rw[<-A.v2];exact e
 have e3:=hv.symm.trans e2;injection e3 with e4 _ e5;subst e4;have hB:=A.block (x:=V.ah) (by simp[aG.rows]) (g:=g) (by rw[e];rfl);have hR:=A.own.ah.row iR (by decide);rw[e] at hR;obtain⟨b',o',e',_,hc⟩:=hR.at_ hx
 cases e'
 have hc':∀ j u,(fU.cells x)[j]?=some u->W.cell? ⟨g,k*4+j,none⟩=some u:=fun j u hj=>by have:=hc j u hj;rwa [Nat.zero_add] at this
 refine⟨g,rfl,⟨x,hc' 0 _ rfl,hc' 1 _ rfl,hc' 2 _ rfl,hc' 3 _ rfl⟩,hfr,?_⟩;have s0:=aX.lQ A.own (g:=g) (c:=c') (k:=k) (j:=0) e (x:=x) (x':=⟨⟨#[]⟩,x.cur,x.price,x.dI⟩) (u:=.string ⟨#[]⟩) hx (by decide) rfl (Nat.zero_le _);have s1:=aX.lQ s0.1 (g:=g) (c:=c') (k:=k) (j:=1) (by rw[e];simp) (x:=⟨⟨#[]⟩,x.cur,x.price,x.dI⟩) (x':=⟨⟨#[]⟩,0,x.price,x.dI⟩) (u:=.int .i64 0) (by simp[hkl]) (by decide) rfl (Nat.zero_le _);have s2:=aX.lQ s1.1 (g:=g) (c:=c') (k:=k) (j:=2) (by rw[e];simp) (x:=⟨⟨#[]⟩,0,x.price,x.dI⟩) (x':=⟨⟨#[]⟩,0,0,x.dI⟩) (u:=.int .i64 0) (by simp[hkl]) (by decide) rfl (Nat.zero_le _);have s3:=aX.lQ s2.1 (g:=g) (c:=c') (k:=k) (j:=3) (by rw[e];simp) (x:=⟨⟨#[]⟩,0,0,x.dI⟩) (x':=⟨⟨#[]⟩,0,0,0⟩) (u:=.int .i64 0) (by simp[hkl]) (by decide) rfl (Nat.zero_le _)
 simp only[Nat.add_zero,Nat.mul_one] at s0 s1 s2 s3
 have M0:=(((s0.2.trans s1.2 (fun _ _ h=>h)).trans s2.2 (fun _ _ h=>h)).trans s3.2 (fun _ _ h=>h));refine h.write K hB.1 hB.2 M0 ⟨V,_,s3.1,A.lt,A.v1,A.v2,A.v3,A.v4,A.v5,A.v6,A.v7,A.v8,A.l1,by simpa using A.l2,A.l3,A.l4,A.l5,A.l6,A.l7,A.l8⟩
def UR (w:World) (Ba E:Nat) (bs:List (Nat×TypeId×Array Value)) (Vm:aG) (L:aI) (Va:aG) (M:aI) (Vb Vw:aG) (k n:Nat) (pa:Option Addr) (pc:Nat) (W:World):Prop :=
 rq w Ba E bs Vm L Va M Vb Vw W/\∃ V l p,KA Ba E Va M V l W/\V.ac[k]?=some p/\p.2=.slice pa n pc/\p.1.aK.length=n
theorem rq.inn (h:rq w Ba E bs Vm L Va M Vb Vw W) (hk:k<M.ai.length) (hv:Va.ai=.slice a M.ai.length c) :
 ∃ g pa n pc,a=some ⟨g,0,none⟩/\W.cell? ⟨g,k*4+1,none⟩=some (.slice pa n pc)/\n<=maxLen/\UR w Ba E bs Vm L Va M Vb Vw k n pa pc W:=by
 obtain⟨V,l,A⟩:=h.a;have hn:V.ac.length=M.ai.length:=by rw[<-A.l4,A.own.same];simp
 obtain⟨p,hp⟩:∃ p,V.ac[k]?=some p:=⟨_,Zg (by omega)⟩;obtain⟨g,c',e,_,_,_,hfr⟩:=A.own.ai.block hp;have e2:Va.ai=.slice (some ⟨g,0,none⟩) V.ac.length c':=by rw[<-A.v4];exact e
 have e3:=hv.symm.trans e2;injection e3 with e4 _ e5;subst e4;have hR:=A.own.ai.row di (by decide);rw[e] at hR;obtain⟨b',o',e',_,hc⟩:=hR.at_ hp
 cases e'
 obtain⟨pa,pc,hpv,_⟩:=(A.own.aK p (List.mem_of_getElem? hp)).form;have h1:=hc 1 p.2 rfl;rw[Nat.zero_add] at h1;have hlen:p.1.aK.length<=maxLen:=by
  have hr:=(A.own.aK p (List.mem_of_getElem? hp)).row gQ (by decide);rw[hpv] at hr;have:=hr.caps;omega
 exact⟨g,pa,p.1.aK.length,pc,rfl,by rw[h1,hpv],hlen,h,V,l,p,A,hp,hpv,rfl⟩
theorem UR.put {n:Nat} {pa:Option Addr} {pc:Nat} {x:Int} (h:UR w Ba E bs Vm L Va M Vb Vw k n pa pc W) (K:KC w Ba E bs Vm Vb Vw) (hj:j<n) (hv:Va.ai=.slice (some ⟨g,0,none⟩) M.ai.length c) (hx:-9223372036854775808<=x/\x<=9223372036854775807) :
 ∃ gp y,pa=some ⟨gp,0,none⟩/\W.cell? ⟨g,k*4+1,none⟩=some (.slice (some ⟨gp,0,none⟩) n pc)/\W.cell? ⟨gp,j,none⟩=some (.int .i64 y)/\W.frozen? ⟨gp,j,none⟩=false/\UR w Ba E bs Vm L Va M Vb Vw k n (some ⟨gp,0,none⟩) pc (W.setCell ⟨gp,j,none⟩ (.int .i64 x)):=by
 obtain⟨h0,V,l,p,A,hp,hpv,hpn⟩:=h;have hn:V.ac.length=M.ai.length:=by rw[<-A.l4,A.own.same];simp
 have e:V.ai=.slice (some ⟨g,0,none⟩) V.ac.length c:=by rw[A.v4,hv,hn]
 have hR:=A.own.ai.row di (by decide);rw[e] at hR;obtain⟨b',o',e',_,hc⟩:=hR.at_ hp
 cases e'
 have oc:=A.own.aK p (List.mem_of_getElem? hp);obtain⟨y,hy⟩:∃ y,p.1.aK[j]?=some y:=⟨_,Zg (by omega)⟩;obtain⟨gp,pc',e2,_,_,_,hfr⟩:=oc.block hy;have e3:=hpv.symm.trans e2;injection e3 with e4 e5 e6;subst e4 e5 e6;have hrow:=oc.row gQ (by decide);rw[e2] at hrow;obtain⟨b2,o2,e7,_,hc2⟩:=hrow.at_ hy
 cases e7
 have h1:=hc 1 p.2 rfl;have h2:=hc2 0 (.int .i64 y) rfl
 simp only[Nat.zero_add,Nat.mul_one,Nat.add_zero] at h1 h2
 have hmem:p.2∈V.rows:=by
  simp only[aG.rows,List.mem_cons,List.mem_map]
  exact Or.inr (Or.inr (Or.inr (Or.inr (Or.inr (Or.inr (Or.inr (Or.inr ⟨p,List.mem_of_getElem? hp,rfl⟩)))))))
 have hB:=A.block hmem (g:=gp) (by rw[e2];rfl);have S:=A.own.dS hp (g:=gp) (c:=pc) e2 hy hx;have hrows:({ V with ac:=V.ac.set k ({ p.1 with aK:=p.1.aK.set j x },p.2) }:aG).rows=V.rows:=by
  simp only[aG.rows]
  rw[jP (fun q:Acc×Value=>q.2) (x':=({ p.1 with aK:=p.1.aK.set j x },p.2)) hp rfl]
 have A':KA Ba E Va M { V with ac:=V.ac.set k ({ p.1 with aK:=p.1.aK.set j x },p.2) } { l with ai:=l.ai.set k { p.1 with aK:=p.1.aK.set j x } } (W.setCell ⟨gp,j,none⟩ (.int .i64 x)) :=
  ⟨S.1,by rw[hrows];exact A.lt,A.v1,A.v2,A.v3,A.v4,A.v5,A.v6,A.v7,A.v8,A.l1,A.l2,A.l3,by simpa using A.l4,A.l5,A.l6,A.l7,A.l8⟩
 refine⟨gp,y,rfl,by rw[h1,e2],h2,hfr j,h0.write K hB.1 hB.2 S.2 ⟨_,_,A'⟩,_,_,({ p.1 with aK:=p.1.aK.set j x },p.2),A',?_,e2,by simp⟩;exact List.getElem?_set_self (List.getElem?_eq_some_iff.1 hp).1
theorem rq.blank (h:rq w Ba E bs Vm L Va M Vb Vw W) (K:KC w Ba E bs Vm Vb Vw) (hk:k<M.ai.length) (hv:Va.ai=.slice a M.ai.length c) :
 ∃ g,a=some ⟨g,0,none⟩/\(∃ u0 a1 n1 c1 u2 u3,W.cell? ⟨g,k*4,none⟩=some (.int .i64 u0)/\W.cell? ⟨g,k*4+1,none⟩=some (.slice a1 n1 c1)/\W.cell? ⟨g,k*4+2,none⟩=some (.bool u2)/\W.cell? ⟨g,k*4+3,none⟩=some (.int .i64 u3))/\(∀ j,W.frozen? ⟨g,j,none⟩=false) /\
  rq w Ba E bs Vm L Va M Vb Vw ((((W.setCell ⟨g,k*4,none⟩ (.int .i64 0)).setCell ⟨g,k*4+1,none⟩ (.slice none 0 0)).setCell ⟨g,k*4+2,none⟩ (.bool false)).setCell ⟨g,k*4+3,none⟩ (.int .i64 0)):=by
 obtain⟨V,l,A⟩:=h.a;have hn:V.ac.length=M.ai.length:=by rw[<-A.l4,A.own.same];simp
 obtain⟨p,hp⟩:∃ p,V.ac[k]?=some p:=⟨_,Zg (by omega)⟩;have hkl:=(List.getElem?_eq_some_iff.1 hp).1;obtain⟨g,c',e,_,_,_,hfr⟩:=A.own.ai.block hp;have e2:Va.ai=.slice (some ⟨g,0,none⟩) V.ac.length c':=by rw[<-A.v4];exact e
 have e3:=hv.symm.trans e2;injection e3 with e4 _ e5;subst e4;have hB:=A.block (x:=V.ai) (by simp[aG.rows]) (g:=g) (by rw[e];rfl);have hR:=A.own.ai.row di (by decide);rw[e] at hR;obtain⟨b',o',e',_,hc⟩:=hR.at_ hp
 cases e'
 have hc':∀ j u,(Acc.cells p)[j]?=some u->W.cell? ⟨g,k*4+j,none⟩=some u:=fun j u hj=>by have:=hc j u hj;rwa [Nat.zero_add] at this
 have s0:=A.own.aJ (g:=g) (c:=c') (k:=k) (j:=0) (u:=.int .i64 0) e (p:=p) (p':=({ p.1 with parent:=0 },p.2)) hp (by decide) rfl rfl rfl;have s1:=s0.1.Pv (g:=g) (c:=c') (k:=k) (p:=({ p.1 with parent:=0 },p.2)) (u:=.slice none 0 0) (aK:=[]) (by simp[e]) (List.getElem?_set_self hkl) (aY.nil _ _ _ _ _) (fun i x _ _ b _ hb=>by simp[Value.ownBlock] at hb) (by simp);have s2:=s1.1.aJ (g:=g) (c:=c') (k:=k) (j:=2) (u:=.bool false) (by simp[e]) (p:=(⟨0,[],p.1.flag,p.1.last⟩,.slice none 0 0)) (p':=(⟨0,[],false,p.1.last⟩,.slice none 0 0)) (by simp[hkl]) (by decide) rfl rfl rfl;have s3:=s2.1.aJ (g:=g) (c:=c') (k:=k) (j:=3) (u:=.int .i64 0) (by simp[e]) (p:=(⟨0,[],false,p.1.last⟩,.slice none 0 0)) (p':=(⟨0,[],false,0⟩,.slice none 0 0)) (by simp[hkl]) (by decide) rfl rfl rfl
 simp only[Nat.add_zero] at s0 s1 s2 s3
 have M0:=((s0.2.trans s1.2 (fun _ _ h=>h)).trans s2.2 (fun _ _ h=>h)).trans s3.2 (fun _ _ h=>h);obtain⟨a1,c1,hpv,_⟩:=(A.own.aK p (List.mem_of_getElem? hp)).form;refine⟨g,rfl,⟨p.1.parent,a1,p.1.aK.length,c1,p.1.flag,p.1.last,hc' 0 _ rfl,(hc' 1 _ rfl).trans (by rw[hpv]),hc' 2 _ rfl,hc' 3 _ rfl⟩,hfr,h.write K hB.1 hB.2 M0 ⟨_,_,s3.1,?_,A.v1,A.v2,A.v3,A.v4,A.v5,A.v6,A.v7,A.v8,A.l1,A.l2,A.l3,by simpa using A.l4,A.l5,A.l6,A.l7,A.l8⟩⟩;intro x hx k' hk'
 simp only[aG.rows,List.mem_cons,List.mem_map] at hx
 have key:∀ y,y∈V.rows->y.ownBlock=some k'->k'<E:=fun y hy h=>A.lt y hy k' h
 rcases hx with rfl|rfl|rfl|rfl|rfl|rfl|rfl|rfl|⟨q,hq,rfl⟩
 ·exact key _ (by simp[aG.rows]) hk'
 ·exact key _ (by simp[aG.rows]) hk'
 ·exact key _ (by simp[aG.rows]) hk'
 ·exact key _ (by simp[aG.rows]) hk'
 ·exact key _ (by simp[aG.rows]) hk'
 ·exact key _ (by simp[aG.rows]) hk'
 ·exact key _ (by simp[aG.rows]) hk'
 ·exact key _ (by simp[aG.rows]) hk'
 have hq2:q.2=.slice none 0 0\/∃ q'∈V.ac,q'.2=q.2:=by
  rcases List.mem_or_eq_of_mem_set hq with hq|rfl
  ·rcases List.mem_or_eq_of_mem_set hq with hq|rfl
   ·rcases List.mem_or_eq_of_mem_set hq with hq|rfl
    ·rcases List.mem_or_eq_of_mem_set hq with hq|rfl
     ·exact Or.inr ⟨q,hq,rfl⟩
     exact Or.inr ⟨p,List.mem_of_getElem? hp,rfl⟩
    exact Or.inl rfl
   exact Or.inl rfl
  exact Or.inl rfl
 rcases hq2 with e1|⟨q',hq2,e1⟩
 ·rw[e1] at hk';simp[Value.ownBlock] at hk'
 rw[<-e1] at hk';refine key q'.2 ?_ hk'
 simp only[aG.rows,List.mem_cons,List.mem_map]
 exact Or.inr (Or.inr (Or.inr (Or.inr (Or.inr (Or.inr (Or.inr (Or.inr ⟨q',hq2,rfl⟩)))))))
end Go.Bw
namespace Go.Proofs.YtfknkmlocbojhaaGreatDoor
open Go.RowKit Go.Bw Go.Maps Go.Shelf Go.Bw.Fall
structure Si (L M:aI) (k:Nat) (u:Int):Prop where
 U0:k=0->M.day=L.day+1/\L.day<100000/\M.orders=[]/\M.aP=[]/\M.aH=List.replicate L.af.length 0/\M.aC=L.aC.filter (fun p=>ja L.day (L.ins p.instr))
 Fg:k≠0->M.day=L.day
 aT:M.aT=L.aT
 acl:M.ai.length=L.ai.length
 acc:∀ (v:Nat) (p q:Go.Bw.Acc),L.ai[v]?=some p->M.ai[v]?=some q->q.parent=p.parent/\q.last=p.last
 RY:M.ah.length=L.ah.length
 und:∀ (n:Nat) (x y:fU),M.ah[n]?=some x->L.ah[n]?=some y->(x=y\/((n:Int)=u/\(k=1\/k=3)))/\x.dI=y.dI/\x.cur=y.cur/\(k=1->x.name=y.name)/\(k=3->x.price=y.price)
 inl:M.af.length=L.af.length
 ins:∀ (n:Nat) (x y:Ins),M.af[n]?=some x->L.af[n]?=some y->x=y\/(k=0/\x={ y with mark:=x.mark })\/(k=1/\y.under=u/\x={ y with mark:=x.mark,strike:=x.strike })
 rest:2<=k->M.af=L.af/\M.aC=L.aC/\M.orders=L.orders/\M.aH=L.aH/\M.aP=L.aP
theorem zu {l m:List Go.Bw.Acc} (e:m.map Acc.shape=l.map Acc.shape):m.length=l.length/\∀ (v:Nat) (p q:Go.Bw.Acc),l[v]?=some p->m[v]?=some q->q.parent=p.parent/\q.last=p.last:=by
 refine⟨by simpa using congrArg List.length e,fun v p q hp hq=>?_⟩;have h:=congrArg (fun x=>x[v]?) e
 simp only[List.getElem?_map,hp,hq,Option.map_some,Option.some.injEq,Acc.shape,Prod.mk.injEq] at h
 exact⟨h.1,h.2.2.1⟩
theorem NZ {l m:List Ins} (e:m.map Ins.noMark=l.map Ins.noMark):m.length=l.length/\∀ (v:Nat) (x y:Ins),m[v]?=some x->l[v]?=some y->x={ y with mark:=x.mark }:=by
 refine⟨by simpa using congrArg List.length e,fun v x y hx hy=>?_⟩;have h:=congrArg (fun x=>x[v]?) e
 simp only[List.getElem?_map,hx,hy,Option.map_some,Option.some.injEq,Ins.noMark,Ins.mk.injEq] at h
 obtain⟨h1,h2,h3,h4,h5,h6,_⟩:=h
 cases x;cases y
 simp only at h1 h2 h3 h4 h5 h6
 subst h1;subst h2;subst h3;subst h4;subst h5;subst h6;rfl
theorem RN {α:Type} {l:List α} {u:Int} {d z x y:α} {n:Nat} (hu:0<=u/\u<l.length) (hx:(l.set u.toNat z)[n]?=some x) (hy:l[n]?=some y):x=y\/((n:Int)=u/\x=z/\y=l.getD u.toNat d):=by
 rw[List.getElem?_set] at hx;by_cases e:u.toNat=n
 ·rw[if_pos e,if_pos (by omega)] at hx
  right
  refine⟨by omega,(Option.some.inj hx).symm,?_⟩;rw[List.getD_eq_getElem?_getD,e,hy];rfl
 rw[if_neg e] at hx
 left
 exact Option.some.inj (hx.symm.trans hy)
theorem NP {L:aI} (h:L.Good) {k:Nat} (hk:k<4) {u a b:Int} {s:ByteArray} (he:(dZ L k u a b s).err=0):Si L (dZ L k u a b s).led k u:=by
 have ch:k=0\/k=1\/k=2\/k=3:=by omega
 rcases ch with rfl|rfl|rfl|rfl
 ·have he':(jq L).err=0:=he;obtain⟨c1,_,c2,c3,c4,c5,c6,c7,c8,c9⟩:=Fj h he';have hd:L.day<100000:=by
   by_cases h1:L.day<100000
   ·exact h1
   unfold jq at he';rw[if_neg h1] at he';exact absurd (iw he') (by decide)
  obtain⟨s1,s2⟩:=zu c9;obtain⟨i1,i2⟩:=NZ c8;refine⟨fun _=>⟨c1,hd,c2,c3,c4,c5⟩,fun e=>absurd rfl e,c6,s1,s2,by show (jq L).led.ah.length=_;rw[c7],fun n x y hx hy=>?_,i1,fun n x y hx hy=>Or.inr (Or.inl ⟨rfl,i2 n x y hx hy⟩),fun e=>by omega⟩;have hx':(jq L).led.ah[n]?=some x:=hx;rw[c7,hy] at hx';cases hx';exact⟨Or.inl rfl,rfl,rfl,fun e=>by omega,fun e=>by omega⟩
 ·have he':(dD L u a b).err=0:=he;obtain⟨c1,_,c2,c3,c4,c5,c6⟩:=zY h he';obtain⟨s1,s2⟩:=zu c6;refine⟨fun e=>by omega,fun _=>c2,c3,s1,s2,by show (dD L u a b).led.ah.length=_;rw[c4,List.length_set],fun n x y hx hy=>?_,by show (dD L u a b).led.af.length=_;rw[c5];simp[gq],fun n x y hx hy=>?_,fun e=>by omega⟩
  ·have hx':(dD L u a b).led.ah[n]?=some x:=hx;rw[c4] at hx';rcases RN (d:=⟨⟨#[]⟩,0,0,0⟩) c1 hx' hy with e|⟨e1,e2,e3⟩
   ·subst e;exact⟨Or.inl rfl,rfl,rfl,fun _=>rfl,fun e=>by omega⟩
   rw[e2,e3];exact⟨Or.inr ⟨e1,Or.inl rfl⟩,rfl,rfl,fun _=>rfl,fun e=>by omega⟩
  have hx':(dD L u a b).led.af[n]?=some x:=hx;rw[c5] at hx';unfold gq at hx';rw[List.getElem?_map,hy] at hx'
  simp only[Option.map_some,Option.some.injEq] at hx'
  by_cases e:y.under=u
  ·rw[if_pos e] at hx'
   right;right
   subst hx';exact⟨rfl,e,rfl⟩
  rw[if_neg e] at hx'
  left;exact hx'.symm
 ·have he':(jW L u a).err=0:=he;obtain⟨K,_⟩:=FH h he';obtain⟨s1,s2⟩:=zu K.ai;refine⟨fun e=>by omega,fun _=>K.day,K.aT,s1,s2,by show (jW L u a).led.ah.length=_;rw[K.ah],fun n x y hx hy=>?_,by show (jW L u a).led.af.length=_;rw[K.af],fun n x y hx hy=>?_,fun _=>⟨K.af,K.aC,K.orders,K.aH,K.aP⟩⟩
  ·have hx':(jW L u a).led.ah[n]?=some x:=hx;rw[K.ah,hy] at hx';cases hx';exact⟨Or.inl rfl,rfl,rfl,fun e=>by omega,fun e=>by omega⟩
  have hx':(jW L u a).led.af[n]?=some x:=hx;rw[K.af,hy] at hx';cases hx';exact Or.inl rfl
 have he':(jB L u s).err=0:=he;obtain⟨hu,e⟩:=NV he';have e':dZ L 3 u a b s=_:=e;rw[e'];refine⟨fun e=>by omega,fun _=>rfl,rfl,rfl,fun v p q hp hq=>?_,by simp,fun n x y hx hy=>?_,rfl,fun n x y hx hy=>?_,fun _=>⟨rfl,rfl,rfl,rfl,rfl⟩⟩
 ·have hq':L.ai[v]?=some q:=hq;rw[hp] at hq';cases hq';exact⟨rfl,rfl⟩
 ·have hx':(L.ah.set u.toNat { L.und u with name:=s })[n]?=some x:=hx;rcases RN (d:=⟨⟨#[]⟩,0,0,0⟩) hu hx' hy with e|⟨e1,e2,e3⟩
  ·subst e;exact⟨Or.inl rfl,rfl,rfl,fun e=>by omega,fun _=>rfl⟩
  rw[e2,e3];exact⟨Or.inr ⟨e1,Or.inr rfl⟩,rfl,rfl,fun e=>by omega,fun _=>rfl⟩
 have hx':L.af[n]?=some x:=hx;rw[hy] at hx';cases hx';exact Or.inl rfl
theorem Si.flags {L l m:aI} {k:Nat} {u:Int} (c:Si L l k u) (h:gJ l=some m):Si L m k u:=by
 obtain⟨e,hn,hk⟩:=nZ h;refine⟨fun z=>by have:=c.U0 z;rw[e];exact this,fun z=>by have:=c.Fg z;rw[e];exact this,by rw[e];exact c.aT,hn.trans c.acl,fun v p q hp hq=>?_,by rw[e];exact c.RY,fun n x y hx hy=>?_,by rw[e];exact c.inl,fun n x y hx hy=>?_,fun z=>by have:=c.rest z;rw[e];exact this⟩
 ·have hv:v<l.ai.length:=by have:=(List.getElem?_eq_some_iff.1 hq).1;omega
  have h1:=hk v _ q (List.getElem?_eq_getElem hv) hq;have h2:=c.acc v p _ hp (List.getElem?_eq_getElem hv);rw[<-h1] at h2;exact h2
 ·rw[e] at hx;exact c.und n x y hx hy
 rw[e] at hx;exact c.ins n x y hx hy
theorem lM {L:aI} {k:Nat} (hk:k<4) {u a b:Int} {s:ByteArray} (h:(dF L (dZ L k u a b s)).2.2=0):L.Good/\Si L (dF L (dZ L k u a b s)).1 k u:=by
 obtain⟨hg,he,hf,e,_⟩:=oJ h;rw[e];exact⟨hg,(NP hg hk he).flags (kL (lN hg he) hf).1⟩
theorem Ac (i:Ins) (q:Int):(dH i q 0).1=0:=by
 unfold dH
 split
 ·rw[mX,Int.mul_zero]
  split <;> rfl
 rfl
def xA (L:aI) (v k:Int) (p:Pos):Bool:=decide (p.aJ=v/\L.bK p.instr=k)
def uY (L:aI) (u:List Int) (p:Pos):Int×Int:=dH (L.ins p.instr) p.qty (u.getD p.instr.toNat 0)
def jL (L:aI) (v k:Int) (u:List Int):Int×Bool:=fF (uY L u) (xA L v k) L.aC (L.aK v k)
theorem zD {L:aI} {v k:Int} {u:List Int} (h:(jL L v k u).2=true):(jL L v k u).1=L.aK v k+sumP (fun p=>if p.aJ=v/\L.bK p.instr=k then (uY L u p).1 else 0) L.aC:=by
 rw[show (jL L v k u).1=(fF (uY L u) (xA L v k) L.aC (L.aK v k)).1 from rfl,(rf h).1]
 congr 1
 refine iT fun p _=>?_
 unfold xA;simp
theorem Lu {L:aI} {f:Ins->Int} {n:Int} (h0:0<=n) (h1:n<L.af.length):(L.af.map f).getD n.toNat 0=f (L.ins n):=by
 have:=getD_at L.af n.toNat ⟨0,0,0,0,0,false,0⟩ (by omega);rw[List.getD_eq_getElem?_getD,List.getElem?_map,this];rfl
def jX (L:aI):List Int:=L.af.map fun i=>dJ L i - i.mark
theorem Nk {L:aI} {u a b:Int} {s:ByteArray} (h:(dF L (dZ L 0 u a b s)).2.2=0) {v k:Int} (hv:2<=v) (hk:0<=k) (hw:(jL L v k (jX L)).2=true) :
 (jL L v k (jX L)).1=(dF L (dZ L 0 u a b s)).1.aK v k:=by
 obtain⟨hg,he,hf,e,_⟩:=oJ h;rw[e,sN (kL (lN hg he) hf).1,zD hw];have t:=Na hg (v:=v) (k:=k) (by omega) hk he;refine Eq.trans ?_ t.symm
 congr 1
 refine iT fun p hp=>?_
 obtain⟨a1,a2,a3,a4,_⟩:=hg.aC.all p hp;by_cases c:p.aJ=v/\L.bK p.instr=k
 ·rw[if_pos c,if_pos c];unfold uY jX sH;rw[Lu a3 a4];unfold dJ;by_cases z:(L.ins p.instr).aO=0\/L.day<=(L.ins p.instr).aO
  ·rw[if_pos z,if_pos z]
  rw[if_neg z,if_neg z,Int.sub_self,Ac]
 rw[if_neg c,if_neg c]
theorem xh {L:aI} (hg:L.Good) {v k:Int} (hw:(jL L v k (L.af.map Ins.mark)).2=true):(jL L v k (L.af.map Ins.mark)).1=L.aK v k+sV L v k:=by
 rw[zD hw];unfold sV
 congr 1
 refine iT fun p hp=>?_
 obtain⟨a1,a2,a3,a4,_⟩:=hg.aC.all p hp;unfold uY;rw[Lu a3 a4]
theorem FO {L:aI} {u a b:Int} {s:ByteArray} (h:(dF L (dZ L 1 u a b s)).2.2=0) {v k:Int} (hv:2<=v) (hk:0<=k) (hw:(jL L v k (L.af.map Ins.mark)).2=true)
 (hw2:(jL (dF L (dZ L 1 u a b s)).1 v k ((dF L (dZ L 1 u a b s)).1.af.map Ins.mark)).2=true) :
 (jL L v k (L.af.map Ins.mark)).1=(jL (dF L (dZ L 1 u a b s)).1 v k ((dF L (dZ L 1 u a b s)).1.af.map Ins.mark)).1:=by
 have hM:=(iY h).1;rw[xh hM hw2];obtain⟨hg,he,hf,e,_⟩:=oJ h;rw[xh hg hw];have F:=(kL (lN hg he) hf).1;rw[e,sN F];have t:=Eh hg (v:=v) (k:=k) hv hk (show (dD L u a b).err=0 from he);have m:sV (fK (dZ L 1 u a b s).led).1 v k=sV (dZ L 1 u a b s).led v k:=by
  rw[(nZ F).1];rfl
 rw[m];exact t.symm
end Go.Proofs.YtfknkmlocbojhaaGreatDoor
namespace Go.Bw
open Go.RowKit
theorem aY.Ve {w:World} {B g c k:Nat} {e:TypeId} {l:List (Acc×Value)} {p:Acc×Value} (h:aY w B e 4 Acc.cells (.slice (some ⟨g,0,none⟩) l.length c) l) (hk:l[k]?=some p) (q:Acc×Value) :
 aY ((((w.setCell ⟨g,k*4,none⟩ (.int .i64 q.1.parent)).setCell ⟨g,k*4+1,none⟩ q.2).setCell ⟨g,k*4+2,none⟩ (.bool q.1.flag)).setCell ⟨g,k*4+3,none⟩ (.int .i64 q.1.last)) B e 4 Acc.cells (.slice (some ⟨g,0,none⟩) l.length c) (l.set k q) /\
  Mod (fun b=>b=g) w ((((w.setCell ⟨g,k*4,none⟩ (.int .i64 q.1.parent)).setCell ⟨g,k*4+1,none⟩ q.2).setCell ⟨g,k*4+2,none⟩ (.bool q.1.flag)).setCell ⟨g,k*4+3,none⟩ (.int .i64 q.1.last)):=by
 have hl:=(List.getElem?_eq_some_iff.1 hk).1;obtain⟨o0,m0⟩:=h.set di (k:=k) (j:=0) (x':=({ p.1 with parent:=q.1.parent },p.2)) (u:=.int .i64 q.1.parent) hk (by decide) rfl;obtain⟨l0,hl0⟩:=Zn (l.set k ({ p.1 with parent:=q.1.parent },p.2));have n0:l.length=l0.length:=by rw[hl0,List.length_set]
 have k0:l0[k]?=some ({ p.1 with parent:=q.1.parent },p.2):=by rw[hl0,List.getElem?_set_self hl]
 rw[<-hl0,n0] at o0;obtain⟨o1,m1⟩:=o0.set di (k:=k) (j:=1) (x':=({ p.1 with parent:=q.1.parent },q.2)) (u:=q.2) k0 (by decide) rfl;obtain⟨l1,hl1⟩:=Zn (l0.set k ({ p.1 with parent:=q.1.parent },q.2));have n1:l0.length=l1.length:=by rw[hl1,List.length_set]
 have k1:l1[k]?=some ({ p.1 with parent:=q.1.parent },q.2):=by rw[hl1,List.getElem?_set_self (by omega)]
 rw[<-hl1,n1] at o1;obtain⟨o2,m2⟩:=o1.set di (k:=k) (j:=2) (x':=({ p.1 with parent:=q.1.parent,flag:=q.1.flag },q.2)) (u:=.bool q.1.flag) k1 (by decide) rfl;obtain⟨l2,hl2⟩:=Zn (l1.set k ({ p.1 with parent:=q.1.parent,flag:=q.1.flag },q.2));have n2:l1.length=l2.length:=by rw[hl2,List.length_set]
 have k2:l2[k]?=some ({ p.1 with parent:=q.1.parent,flag:=q.1.flag },q.2):=by rw[hl2,List.getElem?_set_self (by omega)]
 rw[<-hl2,n2] at o2;obtain⟨o3,m3⟩:=o2.set di (k:=k) (j:=3) (x':=q) (u:=.int .i64 q.1.last) k2 (by decide) rfl;have e3:l2.set k q=l.set k q:=by rw[hl2,hl1,hl0,List.set_set,List.set_set,List.set_set]
 rw[e3,<-n2,<-n1,<-n0] at o3;exact⟨o3,((m0.trans m1 (fun _ _ h=>h)).trans m2 (fun _ _ h=>h)).trans m3 (fun _ _ h=>h)⟩
theorem aX.mixed {w W:World} {B g c:Nat} {S:Nat->Prop} {U V:aG} {M L:aI} (h:aX w B U M) (hg:U.ai=.slice (some ⟨g,0,none⟩) U.ac.length c) (hm:Mod S w W) (hS:∀ k,S k->k=g\/w.heap.size<=k)
 (ho:RowOf W 4 Acc.cells U.ai V.ac) (hV:bJ W V L) (e1:M.aT=L.aT) (e2:M.af=L.af) (e3:M.aC=L.aC) (e4:M.orders=L.orders) (e5:M.aH=L.aH) (e6:M.aP=L.aP) :
 bJ W { U with ah:=V.ah,ac:=V.ac } L:=by
 have hy:U.rows[3]?=some U.ai:=rfl;have R:∀ {i:Nat} {x:Value},i≠3->U.rows[i]?=some x->∀ k,x.ownBlock=some k->¬ S k:=fun hi hx k hk hs=>by
  rcases hS k hs with e|e
  ·exact rows_apart h.sep hi hx hy k hk (by rw[hg,e];rfl)
  have:=(h.NR _ (List.mem_of_getElem? hx) k hk).2;omega
 refine⟨by rw[<-e1];exact h.led.aT.kept hm (R (i:=0) (by decide) rfl),hV.ah,by rw[<-e2];exact h.led.af.kept hm (R (i:=2) (by decide) rfl),hV.same,ho,hV.aK,by rw[<-e3];exact h.led.aC.kept hm (R (i:=4) (by decide) rfl),by rw[<-e4];exact h.led.orders.kept hm (R (i:=5) (by decide) rfl),
  by rw[<-e5];exact h.led.aH.kept hm (R (i:=6) (by decide) rfl),by rw[<-e6];exact h.led.aP.kept hm (R (i:=7) (by decide) rfl),hV.names,hV.nums⟩
theorem zB {α:Type} {l m:List α} {j:Nat} {q:α} (hq:l[j]?=some q) (hm:j<m.length):(l.take j++m.drop j).set j q=l.take (j+1)++m.drop (j+1):=by
 have hj:=(List.getElem?_eq_some_iff.1 hq).1;have e:(l.take j).length=j:=by rw[List.length_take];omega
 rw[List.set_append_right _ _ (by omega),e,Nat.sub_self,List.drop_eq_getElem_cons hm,List.set_cons_zero,List.take_add_one,hq];simp
theorem y9 {α:Type} {l m:List α} {j:Nat} (hl:j<=l.length) (hm:j<m.length):(l.take j++m.drop j)[j]?=m[j]?:=by
 have e:(l.take j).length=j:=by rw[List.length_take];omega
 rw[List.getElem?_append_right (by omega),e,Nat.sub_self,List.getElem?_drop,Nat.add_zero]
theorem Aw {α:Type} {l:List α} {f:α->Bool} {j:Nat} {p:α} (hp:l[j]?=some p) (hf:f p=true):(l.filter f)[((l.take j).filter f).length]?=some p:=by
 have hj:=(List.getElem?_eq_some_iff.1 hp).1;have e:l=l.take j++p::l.drop (j+1):=by
  have h1:=(List.take_append_drop j l).symm;rw[List.drop_eq_getElem_cons hj,(List.getElem?_eq_some_iff.1 hp).2] at h1;exact h1
 have h2:l.filter f=(l.take j).filter f++p::(l.drop (j+1)).filter f:=by
  conv=>lhs;rw[e]
  rw[List.filter_append,List.filter_cons_of_pos hf]
 rw[h2,List.getElem?_append_right (Nat.le_refl _),Nat.sub_self];rfl
end Go.Bw
namespace Go.Proofs.YtfknkmlocbojhaaGreatDoor
open Go.RowKit Go.Bw Go.Maps Go.Shelf Go.Bw.Fall
theorem uX {W:Pos->Int×Int} {hit:Pos->Bool} {p:Pos} {r:List Pos} {A:Int} (h:hit p=false):fF W hit (p::r) A=fF W hit r A:=by
 rw[fF,if_neg (by rw[h];decide)]
theorem Iq {W:Pos->Int×Int} {hit:Pos->Bool} {p:Pos} {r:List Pos} {A:Int} (h:hit p=true) (h1:(W p).2≠0):fF W hit (p::r) A=(0,false):=by
 rw[fF,if_pos h,if_neg h1]
theorem Ep {W:Pos->Int×Int} {hit:Pos->Bool} {p:Pos} {r:List Pos} {A:Int} (h:hit p=true) (h1:(W p).2=0) (h2:(fQ A (W p).1).2≠0):fF W hit (p::r) A=(0,false):=by
 rw[fF,if_pos h,if_pos h1,if_neg h2]
theorem Es {W:Pos->Int×Int} {hit:Pos->Bool} {p:Pos} {r:List Pos} {A:Int} (h:hit p=true) (h1:(W p).2=0) (h2:(fQ A (W p).1).2=0):fF W hit (p::r) A=fF W hit r (fQ A (W p).1).1:=by
 rw[fF,if_pos h,if_pos h1,if_pos h2]
theorem qZ (w:World) (V:aG) (L:aI) (h:bJ w V L) (hG:L.Good) (v k:Nat) (hv:v<L.ai.length) (hk:k<L.aT.length) (uv:Value) (u:List Int) (hu:RowOf w 1 dn uv u) (hul:u.length=L.af.length) :
 Calls Tryz.prog 25 #[V.val L,.int .i64 (v:Int),.int .i64 (k:Int),uv] w fun e w'=>e=.returned (.tuple #[.int .i64 (jL L v k u).1,.bool (jL L v k u).2])/\Below w.heap.size w w':=by
 obtain⟨R,hR⟩:=Zn (jL L v k u);rw[<-hR];have ER:=zq (show fF (uY L u) (xA L v k) L.aC (L.aK v k)=R from hR.symm);have HH:=zq (fun W (hb:Below w.heap.size w W)=>h.below hb);have UU:=zq (fun W (hb:Below w.heap.size w W)=>hu.below hb);have HG:=zq hG;have UL:=zq hul;have LC:=zq (iL h);have CW:=zq (fun W (hb:Below w.heap.size w W) (n:Nat) (hn:n<L.af.length) q x=>Ef W V L (h.below hb) n hn q x);unfold aG.val at CW ⊢;obtain⟨C,hC⟩:=Zn (V.cells L);have EC:=zq hC;rw[<-hC] at CW LC ⊢;obtain⟨p0,b4,o4,g4,og4,c4,cc4,CA⟩:=h.kV hv (m:=k) (by rw[hG.jF hv];exact hk);obtain⟨a5,c5,e5⟩:=h.aC.form;obtain⟨n4,hn4⟩:=Zn L.ai.length;obtain⟨n5,hn5⟩:=Zn L.aC.length;obtain⟨nc,hnc⟩:=Zn ((L.acc v).aK.length);obtain⟨x0,hx0⟩:=Zn (L.aK v k);have CT:=CA.LY;have CT2:=CA.at2;have e4:=CA.row;rw[<-hnc] at CT;rw[<-hx0] at CT2 ER;rw[<-hn4] at e4 hv;rw[<-hn5] at e5;have N5:=zq hn5;have E5:=zq e5;have BD:=zq (show n5<=64 from by rw[hn5];exact hG.aC.len);have v0:(0:Int)<=(v:Int):=by omega
 have v1:(v:Int)<(n4:Int):=by omega
 have k0:(0:Int)<=(k:Int):=by omega
 have k1:(k:Int)<(nc:Int):=by rw[hnc,hG.jF (by rw[<-hn4];exact hv)];omega
 obtain⟨W0,hW0⟩:=Zn (w.alloc (.cells C 31));obtain⟨b0,hb0⟩:=Zn w.heap.size;have X0:=zq (show At w W0 [(b0, 31,C)] from by
  have a:=(At.start w).alloc 31 C;rw[<-hW0,<-hb0] at a;exact a)
 have y4:W0.cell? ⟨b0,4,none⟩=some (.slice (some ⟨b4,o4,none⟩) n4 c4):=X0.o.cell 0 rfl 4 (by rw[hC,<-e4];rfl);have y5:W0.cell? ⟨b0,5,none⟩=some (.slice a5 n5 c5):=X0.o.cell 0 rfl 5 (by rw[hC,<-e5];rfl);have x1:W0.cell? ⟨b4,o4+v*4+1,none⟩=some (.slice (some ⟨g4,og4,none⟩) nc cc4):=(Mod.of_below X0.o.low).cell CT (fun h=>h);have x2:W0.cell? ⟨g4,og4+k,none⟩=some (.int .i64 x0):=(Mod.of_below X0.o.low).cell CT2 (fun h=>h);clear h hu hG hul hR hC CA e4 e5 hn4 hn5 hnc hx0 CT CT2 hv hk
 go_enter Tryz.func25,Tryz.ntmps25
 go_upto_region 1 with (fail)
 rw[<-hW0,<-hb0];clear hW0 hb0
 go_wp2_with fail
 clear v0 v1 k0 k1 y4 y5 x1 x2
 go_loopw [10,28] (fun al i wr=>∃ (j:Nat) (A:Int),j<=n5/\al=.int .i64 A/\i=.int .i64 j/\∃ W,W=wr/\Hid (At w W [(b0, 31,C)]/\fF (uY L u) (xA L v k) (L.aC.drop j) A=R)) (fun _ i _=>n5 - (intOf i).toNat)
 case atStart=>exact⟨0,_,Nat.zero_le _,rfl,rfl,_,rfl,zq ⟨X0.o,ER.o⟩⟩
 clear X0 ER;obtain⟨j,A,hj,rfl,rfl,W,rfl,IV⟩:=hrel;by_cases hlt:j<n5;rotate_left
 ·have hlt':¬ (j:Int)<(n5:Int):=by omega
  have RE:=zq (show R=(A,true) from by rw[<-IV.o.2,List.drop_eq_nil_of_le (by have:=N5.o;omega)];rfl);have XL:=zq IV.o.1.low;clear IV
  go_wp2_with fail
  go_ret2;exact⟨by rw[RE.o] <;> rfl,XL.o⟩
 have hlt':(j:Int)<(n5:Int):=by omega
 have n64:n5<=64:=BD.o;have LT:=zq hlt;obtain⟨p,hp⟩:∃ p,L.aC[j]?=some p:=⟨_,Zg (by rw[<-N5.o];exact hlt)⟩;have HP:=zq hp;obtain⟨g5,o5,c5',e5',hc5⟩:=(HH.o W IV.o.1.low).aC.place hp;have e55:=E5.o.symm.trans e5';injection e55 with e51 e52 e53;subst e51;obtain⟨q1,q2,q3,q4,_⟩:=HG.o.aC.all p (List.mem_of_getElem? hp);obtain⟨ni,hni⟩:∃ n:Nat,p.instr=n:=⟨p.instr.toNat,by omega⟩;have hni3:ni<L.af.length:=by omega
 obtain⟨b3,o3,c3,e3,h3⟩:=(HH.o W IV.o.1.low).af.place (aI.fA hni3);obtain⟨m,em,hm,hum⟩:=HG.o.wW hni3;obtain⟨b2,o2,c2,e2,h2⟩:=(HH.o W IV.o.1.low).ah.place hum;obtain⟨x,hx⟩:∃ x,u[ni]?=some x:=⟨_,Zg (by rw[UL.o];exact hni3)⟩;obtain⟨bu,ou,cu,eu,hcu⟩:=(UU.o W IV.o.1.low).place hx;have EU:=zq eu;obtain⟨pa,hpa⟩:=Zn p.aJ;obtain⟨pq,hpq⟩:=Zn p.qty;obtain⟨I,hI⟩:=Zn (L.ins ni);obtain⟨cy,hcy⟩:=Zn (L.bK ni);obtain⟨n3,hn3⟩:=Zn L.af.length;obtain⟨n2,hn2⟩:=Zn L.ah.length;obtain⟨nu,hnu⟩:=Zn u.length;rw[<-hI] at h3 em;rw[<-hn3] at e3;rw[<-hn2] at e2 hm;rw[<-hnu] at eu;have HIT:=zq (show xA L v k p=decide (pa=(v:Int)/\cy=(k:Int)) from by unfold xA;rw[hni,hpa,hcy]);have WTH:=zq (show uY L u p=dH (L.ins ni) pq x from by unfold uY;rw[hni,hpq,Int.toNat_natCast,List.getD_eq_getElem?_getD,hx];rfl);have NI:=zq hni3;have d0:W.cell? ⟨g5,o5+j*3,none⟩=some (.int .i64 pa):=by rw[hpa];have:=hc5 0 _ rfl;simpa using this
 have d1:W.cell? ⟨g5,o5+j*3+1,none⟩=some (.int .i64 (ni:Int)):=by rw[<-hni];exact hc5 1 _ rfl
 have d2:W.cell? ⟨g5,o5+j*3+2,none⟩=some (.int .i64 pq):=by rw[hpq];exact hc5 2 _ rfl
 have Y2:=zq (show (V.cells L)[2]?=some (.slice (some ⟨b2,o2,none⟩) n2 c2) from by rw[<-e2];rfl);have H2:=zq (show W.cell? ⟨b2,o2+m*4+1,none⟩=some (.int .i64 cy) from by rw[hcy];exact h2 1 _ rfl);have HU:=zq (show W.cell? ⟨bu,ou+ni,none⟩=some (.int .i64 x) from by have:=hcu 0 _ rfl;simpa using this);have H3:=zq h3;have Y3:=zq (show (V.cells L)[3]?=some (.slice (some ⟨b3,o3,none⟩) n3 c3) from by rw[<-e3];rfl);have EM:=zq em;have k0:(0:Int)<=(ni:Int):=by omega
 have k1:(ni:Int)<(n3:Int):=by omega
 have k2:(ni:Int)<(nu:Int):=by rw[hnu,UL.o,<-hn3];omega
 have K2:=zq k2;have m0:(0:Int)<=(m:Int):=by omega
 have m1:(m:Int)<(n2:Int):=by omega
 subst eu;clear hp e5' e53 hc5 h3 h2 hm hum hx hcu hpa hpq hI hcy hn3 hn2 hnu e3 e2 em q1 q2 q3 q4 hni k2 e52 EU hni3
 go_upto_region 5 with fail
 clear d0 d1 d2;obtain⟨Wa,hWa⟩:=Zn (W.alloc (.cells #[.int .i64 pa,.int .i64 (ni:Int),.int .i64 pq] 60));obtain⟨bp,hbp⟩:=Zn W.heap.size;have Xa:=zq (show At w Wa [(b0, 31,C),(bp, 60,#[.int .i64 pa,.int .i64 (ni:Int),.int .i64 pq])] from by rw[hWa,hbp];exact IV.o.1.alloc _ _);have Ma:=zq (show Mod (fun _=>False) W Wa from by rw[hWa];exact (Mod.refl (fun _=>False) W).alloc _);have GO:=zq (show fF (uY L u) (xA L v k) (p::L.aC.drop (j+1)) A=R from by rw[<-drop_at HP.o];exact IV.o.2)
 try rw[<-hWa]
 try rw[<-hbp]
 clear hWa hbp IV;have p1:Wa.cell? ⟨bp,1,none⟩=some (.int .i64 (ni:Int)):=Xa.o.cell 1 rfl 1 rfl;have i0:Wa.cell? ⟨b3,o3+ni*7,none⟩=some (.int .i64 I.kind):=Ma.o.cell (by have:=H3.o 0 _ rfl;simpa using this) (fun h=>h);have i1:Wa.cell? ⟨b3,o3+ni*7+1,none⟩=some (.int .i64 (m:Int)):=Ma.o.cell (by rw[<-EM.o];exact H3.o 1 _ rfl) (fun h=>h);have i2:Wa.cell? ⟨b3,o3+ni*7+2,none⟩=some (.int .i64 I.mult):=Ma.o.cell (H3.o 2 _ rfl) (fun h=>h);have i3:Wa.cell? ⟨b3,o3+ni*7+3,none⟩=some (.int .i64 I.strike):=Ma.o.cell (H3.o 3 _ rfl) (fun h=>h);have i4:Wa.cell? ⟨b3,o3+ni*7+4,none⟩=some (.int .i64 I.aO):=Ma.o.cell (H3.o 4 _ rfl) (fun h=>h);have i5:Wa.cell? ⟨b3,o3+ni*7+5,none⟩=some (.bool I.call):=Ma.o.cell (H3.o 5 _ rfl) (fun h=>h);have i6:Wa.cell? ⟨b3,o3+ni*7+6,none⟩=some (.int .i64 I.mark):=Ma.o.cell (H3.o 6 _ rfl) (fun h=>h);have y3:Wa.cell? ⟨b0,3,none⟩=some (.slice (some ⟨b3,o3,none⟩) n3 c3):=Xa.o.cell 0 rfl 3 (by rw[EC.o];exact Y3.o)
 go_upto_region 6 with fail
 clear i0 i1 i2 i3 i4 i5 i6 y3 p1;obtain⟨W1,hW1⟩:=Zn (Wa.alloc (.cells #[.int .i64 I.kind,.int .i64 (m:Int),.int .i64 I.mult,.int .i64 I.strike,.int .i64 I.aO,.bool I.call,.int .i64 I.mark] 51));obtain⟨bi,hbi⟩:=Zn Wa.heap.size;have X1:=zq (show At w W1 [(b0, 31,C),(bp, 60,#[.int .i64 pa,.int .i64 (ni:Int),.int .i64 pq]),(bi, 51,#[.int .i64 I.kind,.int .i64 (m:Int),.int .i64 I.mult,.int .i64 I.strike,.int .i64 I.aO,.bool I.call,.int .i64 I.mark])] from by rw[hW1,hbi];exact Xa.o.alloc _ _);have M1:=zq (show Mod (fun _=>False) W W1 from by rw[hW1];exact Ma.o.alloc _)
 try rw[<-hW1]
 try rw[<-hbi]
 clear hW1 hbi Xa Ma H3 EM;have p0:W1.cell? ⟨bp,0,none⟩=some (.int .i64 pa):=X1.o.cell 1 rfl 0 rfl;by_cases hh:pa=(v:Int);rotate_left
 ·have d1:(pa != (v:Int))=true:=by simp[hh]
  have NX:=zq (show fF (uY L u) (xA L v k) (L.aC.drop (j+1)) A=R from by rw[<-GO.o,uX (by rw[HIT.o];exact Zf (fun z=>hh z.1))])
  go_wp2_with fail
  go_roundw
  case rel=>exact⟨j+1,A,by have:=LT.o;omega,rfl,by go_num,_,rfl,zq ⟨X1.o.sub (by simp),NX.o⟩⟩
  case measure=>have:=LT.o;simp[intOf];omega
 have d1:(pa != (v:Int))=false:=by simp[hh]
 have HV:=zq hh;have y2:W1.cell? ⟨b0,2,none⟩=some (.slice (some ⟨b2,o2,none⟩) n2 c2):=X1.o.cell 0 rfl 2 (by rw[EC.o];exact Y2.o);have j1:W1.cell? ⟨bi,1,none⟩=some (.int .i64 (m:Int)):=X1.o.cell 2 rfl 1 rfl;have z1:W1.cell? ⟨b2,o2+m*4+1,none⟩=some (.int .i64 cy):=M1.o.cell H2.o (fun h=>h);by_cases hc:cy=(k:Int);rotate_left
 ·have d2:(cy != (k:Int))=true:=by simp[hc]
  have NX:=zq (show fF (uY L u) (xA L v k) (L.aC.drop (j+1)) A=R from by rw[<-GO.o,uX (by rw[HIT.o];exact Zf (fun z=>hc z.2))]);clear hh
  go_wp2_with fail
  go_roundw
  case rel=>exact⟨j+1,A,by have:=LT.o;omega,rfl,by go_num,_,rfl,zq ⟨X1.o.sub (by simp),NX.o⟩⟩
  case measure=>have:=LT.o;simp[intOf];omega
 have d2:(cy != (k:Int))=false:=by simp[hc]
 have HT:=zq (show xA L v k p=true from by rw[HIT.o];exact decide_eq_true ⟨HV.o,hc⟩);clear hh hc
 go_upto_region 7 with fail
 clear d1 d2 y2 j1 z1 p0 m0 m1;obtain⟨xw,ew,hw⟩:∃ y e,dH (L.ins ni) pq x=(y,e):=⟨_,_,rfl⟩;have CX:=zq (fun W (hb:Below w.heap.size w W)=>CW.o W hb ni NI.o pq x);rw[hw] at CX;have WE:=zq (show uY L u p=(xw,ew) from by rw[WTH.o,hw]);clear hw;have p1:W1.cell? ⟨bp,1,none⟩=some (.int .i64 (ni:Int)):=X1.o.cell 1 rfl 1 rfl;have p2:W1.cell? ⟨bp,2,none⟩=some (.int .i64 pq):=X1.o.cell 1 rfl 2 rfl;have u1:W1.cell? ⟨bu,ou+ni,none⟩=some (.int .i64 x):=M1.o.cell HU.o (fun h=>h);have k2:=K2.o;refine aj.wz [10] [] (.step 0 (.step 1 (.step 2 (.step 3 (.step 4 (.step 5 (.step 6 (.step 7 (.step 8 (.step 9 (.step 10 (.step 11 (.step 12 (.step 13 (.step 14 (.step 15 .leaf)))))))))))))))) (by kernel_rfl) (by kernel_rfl) ?_;refine aj.ay [0,1,2,3,4,5,6,7,8,9] (by kernel_rfl) ?_
 simp only[au,nth]
 refine BQ (cs:=C) (fun W hW=>by rw[hW];exact X1.o.drew.get 0 rfl) LC.o rfl rfl rfl ?_;go_simp
 repeat (go_big_quiet_step (fail))
 refine wpQuiet_nil ?_;refine aj.bF (by kernel_rfl) rfl (by kernel_rfl) (fun K hK=>?_)
 simp only[au,nth]
 refine ak ?_;go_simp;refine (CX.o _ X1.o.drew.low).mono ?_;rintro e w4 ⟨rfl,hb⟩;have X4:=zq (X1.o.drew.go hb);clear hb p1 p2 u1 k2 k0 k1;go_simp;refine hK _ _ ?_;clear hK;refine aj.ay [11,12,13,14,15] (by kernel_rfl) ?_
 simp only[au,nth]
 repeat (go_big_quiet_step (fail))
 refine wpQuiet_nil ?_;refine aj.aU ?_;by_cases hz:ew=0;rotate_left
 ·have hz':(ew != 0)=true:=by simp[hz]
  have RE:=zq (show R=(0,false) from by rw[<-GO.o,Iq HT.o (by rw[WE.o];exact hz)]);have XL:=zq X4.o.low;clear hz X1 X4
  go_wp2_with fail
  go_ret2;exact⟨by rw[RE.o] <;> rfl,XL.o⟩
 subst hz;obtain⟨A2,ea,hA⟩:∃ x e,fQ A xw=(x,e):=⟨_,_,rfl⟩;have CD:=zq (fun W=>Hy A xw W);rw[hA] at CD;have AE:=zq hA;clear hA
 go_wp2_with fail
 refine (CD.o _).mono ?_;rintro e w5 ⟨rfl,rfl⟩;by_cases hz:ea=0;rotate_left
 ·have hz':(ea != 0)=true:=by simp[hz]
  have RE:=zq (show R=(0,false) from by rw[<-GO.o,Ep HT.o (by rw[WE.o]) (by rw[WE.o,AE.o];exact hz)]);have XL:=zq X4.o.low;clear hz X1 X4
  go_wp2_with fail
  go_ret2;exact⟨by rw[RE.o] <;> rfl,XL.o⟩
 subst hz;have NX:=zq (show fF (uY L u) (xA L v k) (L.aC.drop (j+1)) A2=R from by rw[<-GO.o,Es HT.o (by rw[WE.o]) (by rw[WE.o,AE.o]),WE.o,AE.o])
 go_wp2_with fail
 go_roundw
 case rel=>exact⟨j+1,A2,by have:=LT.o;omega,rfl,by go_num,_,rfl,zq ⟨X4.o.sub (by simp),NX.o⟩⟩
 case measure=>have:=LT.o;simp[intOf];omega
end Go.Proofs.YtfknkmlocbojhaaGreatDoor
