/- Joined: RLifB, RLifI. -/
import Derived.Test.YtcepekniflaoaaaGreatDoorHn
import Derived.Test.YtcepekniflaoaaaGreatDoorRLifA
import Derived.Test.YtcepekniflaoaaaGreatDoorHk
import Derived.Test.YtcepekniflaoaaaGreatDoorGe
set_option linter.unusedVariables false
set_option linter.unusedSimpArgs false
set_option maxRecDepth 100000
set_option maxHeartbeats 8000000
namespace Go.Bw
open Go.RowKit Classical
theorem dS.Qi {w W:World} {R0:Nat} {bs:List (Nat×TypeId×Array Value)} {V:aC} {l:aI} (F:dS w R0 bs V l W) {g c k:Nat} (hv:V.ah=.slice (some ⟨g,0,none⟩) l.ah.length c) {x:dU} (hk:l.ah[k]?=some x) (s:ByteArray) (hs:s.size<=maxLen) :
 dS w R0 bs V { l with ah:=l.ah.set k { x with name:=s } } ((((W.setCell ⟨g,k*4,none⟩ (.string s)).setCell ⟨g,k*4+1,none⟩ (.int .i64 x.cur)).setCell ⟨g,k*4+2,none⟩ (.int .i64 x.price)).setCell ⟨g,k*4+3,none⟩ (.int .i64 x.dh)):=by
 have hg:V.ah.ownBlock=some g:=by rw[hv];rfl
 have hl:=(List.getElem?_eq_some_iff.1 hk).1;obtain⟨o1,m1⟩:=F.own.kF (x':={ x with name:=s }) (u:=.string s) (j:=0) hv hk (by decide) rfl hs;have f1:=F.row o1 m1 (q:=1) rfl hg rfl;obtain⟨l1,hl1⟩:∃ l1:aI,l1={ l with ah:=l.ah.set k { x with name:=s } }:=⟨_,rfl⟩;rw[<-hl1] at f1 ⊢;have hk1:l1.ah[k]?=some { x with name:=s }:=by rw[hl1];simp[hl]
 have hv1:V.ah=.slice (some ⟨g,0,none⟩) l1.ah.length c:=by rw[hl1];simpa using hv
 have e1:({ l1 with ah:=l1.ah.set k { x with name:=s } }:aI)=l1:=by
  have:l1.ah.set k { x with name:=s }=l1.ah:=by
   apply List.ext_getElem?
   intro i;rw[List.getElem?_set];by_cases e:k=i
   ·subst e;rw[if_pos rfl,if_pos (List.getElem?_eq_some_iff.1 hk1).1,hk1]
   rw[if_neg e]
  rw[this]
 obtain⟨o2,m2⟩:=f1.own.kF (x':={ x with name:=s }) (u:=.int .i64 x.cur) (j:=1) hv1 hk1 (by decide) rfl hs;have f2:=f1.row o2 m2 (q:=1) rfl hg rfl;rw[e1] at f2;obtain⟨o3,m3⟩:=f2.own.kF (x':={ x with name:=s }) (u:=.int .i64 x.price) (j:=2) hv1 hk1 (by decide) rfl hs;have f3:=f2.row o3 m3 (q:=1) rfl hg rfl;rw[e1] at f3;obtain⟨o4,m4⟩:=f3.own.kF (x':={ x with name:=s }) (u:=.int .i64 x.dh) (j:=3) hv1 hk1 (by decide) rfl hs;have f4:=f3.row o4 m4 (q:=1) rfl hg rfl;rw[e1] at f4;exact f4
end Go.Bw
namespace Go.Proofs.YtcepekniflaoaaaGreatDoor
open Go.RowKit Go.Bw Go.Maps Go.Shelf Go.Bw.Fall
theorem Aa (w:World) (V:aC) (L:aI) (h:bJ w V L) (hL:L.ai.length<=1024) (u:Int) (nm:ByteArray) (hs:nm.size<=maxLen) :
 Calls Tryz.prog 14 #[V.val L,.int .i64 u,.string nm] w (mO w (jh L (dY L u nm))):=by
 classical
 have LC:=zq (iw h);have HH:=zq h;have GD:=zq (show ∀ W,Below w.heap.size w W->∀ B:Bool,decide L.Good=B->Calls Tryz.prog 31 #[V.val L] W fun e w'=>e=.returned (.bool B)/\Below W.heap.size W w' from fun W hb B hB=>Du (h.below hb) hL hB);have CP:=zq (fun W (hb:Below w.heap.size w W) (hg:L.Good)=>qG W V L (h.below hb) (gy hg).1 (fun a ha=>by have:=(gy hg).2.1 a ha;omega));unfold aC.val at GD CP ⊢;obtain⟨C,hC⟩:=Zn (V.cells L);have EC:=zq hC;rw[<-hC] at GD CP LC ⊢;obtain⟨W0,hW0⟩:=Zn ((w.alloc (.cells C 31)).alloc (.cells #[.int .i64 0,.slice none 0 0,.slice none 0 0,.slice none 0 0,.slice none 0 0,.slice none 0 0,.slice none 0 0,.slice none 0 0,.slice none 0 0] 31));obtain⟨b0,hb0⟩:=Zn w.heap.size;have X0:=zq (show At w W0 [(b0, 31,C),(b0+1, 31,bF)] from by
  have a:=(((At.start w).alloc 31 C).alloc 31 #[.int .i64 0,.slice none 0 0,.slice none 0 0,.slice none 0 0,.slice none 0 0,.slice none 0 0,.slice none 0 0,.slice none 0 0,.slice none 0 0]);have e:∀ (w:World) (o:Obj),(w.alloc o).heap.size=w.heap.size+1:=fun w o=>by simp
  simp only[e] at a
  rw[<-hW0,<-hb0] at a;exact a)
 clear h hL hC
 go_enter Tryz.func14,Tryz.ntmps14
 go_upto_region 1 with (fail)
 rw[<-hW0,<-hb0];clear hW0 hb0
 go_wp2_with (refine bW (X0.o.get 0 rfl) LC.o rfl rfl rfl ?_)
 by_cases hg:L.Good;rotate_left
 ·refine (GD.o W0 X0.o.low false (decide_eq_false hg)).mono ?_;rintro e w1 ⟨rfl,hb⟩;have XX:=zq (X0.o.go hb);have HG:=zq hg;clear hb X0 hg GD
  go_wp2_with fail
  refine (gV 43 _).mono ?_;rintro e w9 ⟨rfl,hb⟩;have XN:=zq (XX.o.go hb);clear hb
  go_wp2_with (refine aZ (cs:=bF) (XN.o.get 1 rfl) bI bI rfl rfl rfl rfl ?_)
  refine bodyPost_ret (bZ (cs:=bF) rfl _ _ (setRow_heap _ _ _ _ _ _ (XN.o.get 1 rfl)) bI rfl) rfl (by first|exact fU XN.o (k:=1) rfl (mZ HG.o _)|simpa using fU XN.o (k:=1) rfl (mZ HG.o _))
 refine (GD.o W0 X0.o.low true (decide_eq_true hg)).mono ?_;rintro e w1 ⟨rfl,hb⟩;have XX:=zq (X0.o.go hb);have HG:=zq hg;clear hb X0 hg GD;have HS:=zq hs;obtain⟨a2,c2,e2⟩:=HH.o.ah.form;have E2:=zq e2;obtain⟨n2,hn2⟩:=Zn L.ah.length;have N2:=zq hn2;have U6:=zq (show n2<=6 from by rw[hn2];exact HG.o.things.u1);have GOODL:=zq (fun (he:(dY L u nm).err=0)=>xC HG.o he);have y2:w1.cell? ⟨b0,2,none⟩=some (.slice a2 n2 c2):=XX.o.cell 0 rfl 2 (by rw[EC.o,hn2,<-e2];rfl);clear e2 hn2 hs;by_cases h0:u<0
 ·have d0:decide (u<0)=true:=decide_eq_true h0
  go_wp2_with fail
  refine (gV 31 _).mono ?_;rintro e w9 ⟨rfl,hb⟩;have XN:=zq (XX.o.go hb);clear hb
  go_wp2_with (refine aZ (cs:=bF) (XN.o.get 1 rfl) bI bI rfl rfl rfl rfl ?_)
  refine bodyPost_ret (bZ (cs:=bF) rfl _ _ (setRow_heap _ _ _ _ _ _ (XN.o.get 1 rfl)) bI rfl) rfl (by first|exact fU XN.o (k:=1) rfl (by rw[eF HG.o (by unfold dY;rw[if_neg (by omega)];decide)];unfold dY;rw[if_neg (by omega)];rfl)|simpa using fU XN.o (k:=1) rfl (by rw[eF HG.o (by unfold dY;rw[if_neg (by omega)];decide)];unfold dY;rw[if_neg (by omega)];rfl))
 obtain⟨k,rfl⟩:∃ k:Nat,u=k:=⟨u.toNat,by omega⟩;by_cases h1:k<n2;rotate_left
 ·have h1':(n2:Int)<=(k:Int):=by omega
  go_wp2_with fail
  refine (gV 31 _).mono ?_;rintro e w9 ⟨rfl,hb⟩;have XN:=zq (XX.o.go hb);clear hb
  go_wp2_with (refine aZ (cs:=bF) (XN.o.get 1 rfl) bI bI rfl rfl rfl rfl ?_)
  refine bodyPost_ret (bZ (cs:=bF) rfl _ _ (setRow_heap _ _ _ _ _ _ (XN.o.get 1 rfl)) bI rfl) rfl (by first|exact fU XN.o (k:=1) rfl (by rw[eF HG.o (by unfold dY;rw[if_neg (by have:=N2.o;omega)];decide)];unfold dY;rw[if_neg (by have:=N2.o;omega)];rfl)|simpa using fU XN.o (k:=1) rfl (by rw[eF HG.o (by unfold dY;rw[if_neg (by have:=N2.o;omega)];decide)];unfold dY;rw[if_neg (by have:=N2.o;omega)];rfl))
 have hk':=zq (show k<L.ah.length from by rw[<-N2.o];exact h1);have h1':¬ (n2:Int)<=(k:Int):=by omega
 have h2':¬ (k:Int)<0:=by omega
 clear h0 h1
 go_wp2_with fail
 clear h1' h2'
 go_loopw [36] (fun i wr=>∃ j:Nat,j<=n2/\i=.int .i64 j/\∃ W,W=wr/\Hid (At w W [(b0, 31,C),(b0+1, 31,bF)]/\∀ (q:Nat) x,q<j->L.ah[q]?=some x->x.name≠nm)) (fun i _=>n2 - (intOf i).toNat)
 case atStart=>exact⟨0,Nat.zero_le _,rfl,_,rfl,zq ⟨XX.o,fun j x hj=>by omega⟩⟩
 clear XX y2;obtain⟨j,hj,rfl,W,rfl,IV⟩:=hrel;by_cases hlt:j<n2
 ·have hlt':(j:Int)<(n2:Int):=by omega
  have n6:n2<=6:=U6.o;have LT:=zq hlt;obtain⟨x,hx⟩:∃ x,L.ah[j]?=some x:=⟨_,Zg (by rw[<-N2.o];exact hlt)⟩;have HX:=zq hx;have hR:=(HH.o.below IV.o.1.low).ah;rw[E2.o] at hR;obtain⟨b',o',e',_,hc⟩:=hR.at_ hx;have q0:W.cell? ⟨b',o'+j*4,none⟩=some (.string x.name):=by have:=hc 0 _ rfl;simpa using this
  have q1:=hc 1 _ rfl;have q2:=hc 2 _ rfl;have q3:=hc 3 _ rfl;subst e';have XW:=zq (show ∀ c,At w (W.alloc (.cells c 48)) [(b0, 31,C),(b0+1, 31,bF)] from fun c=>(IV.o.1.go (Zb)));by_cases he:x.name=nm
  ·have hq:(x.name.toList==nm.toList)=true:=(iH _ _).2 he;have WHY:=zq (show jh L (dY L (k:Int) nm)=(L0,0,42) from by
    have e:dY L (k:Int) nm=.no 42:=by unfold dY;rw[if_pos (by have:=hk'.o;omega),if_neg (fun h=>h.2 x (List.mem_of_getElem? HX.o) he)]
    rw[e,eF HG.o (by decide)];rfl)
   clear hc hR hx he
   go_wp2_with fail
   refine (gV 42 _).mono ?_;rintro e w9 ⟨rfl,hb⟩;have XN:=zq ((XW.o _).go hb);clear hb q0 q1 q2 q3
   go_wp2_with (refine aZ (cs:=bF) (XN.o.get 1 rfl) bI bI rfl rfl rfl rfl ?_)
   refine bodyPost_ret (bZ (cs:=bF) rfl _ _ (setRow_heap _ _ _ _ _ _ (XN.o.get 1 rfl)) bI rfl) rfl (by first|exact fU XN.o (k:=1) rfl WHY.o|simpa using fU XN.o (k:=1) rfl WHY.o)
  have hq:(x.name.toList==nm.toList)=false:=Bool.eq_false_iff.2 fun h=>he ((iH _ _).1 h)
  have HE:=zq he;clear hc hR hx he
  go_wp2_with fail
  go_roundw
  case rel=>exact⟨j+1,by have:=LT.o;omega,by go_num,_,rfl,zq ⟨XW.o _,fun q y hq hy=>by
   rcases Nat.lt_or_ge q j with h|h
   ·exact IV.o.2 q y h hy
   obtain rfl:q=j:=by omega
   rw[HX.o] at hy;cases hy;exact HE.o⟩⟩
  case measure=>have:=LT.o;simp[intOf];omega
 have hlt':¬ (j:Int)<(n2:Int):=by omega
 obtain⟨w1,rfl⟩:=Zn W;have NE:=zq (show ∀ x∈L.ah,x.name≠nm from fun x hx=>by
  obtain⟨q,hq,e⟩:=List.mem_iff_getElem.1 hx;exact IV.o.2 q x (by rw[<-N2.o] at hq;omega) (by rw[List.getElem?_eq_getElem hq,e]))
 have XX:=zq IV.o.1;clear IV hj hlt;have NM:=zq (fun W=>zh nm HS.o W);obtain⟨NB,hNB⟩:=Zn (nameB nm);rw[<-hNB] at NM;have EB:=zq hNB;clear hNB
 go_wp2_with fail
 refine (NM.o _).mono ?_;rintro e w3 ⟨rfl,rfl⟩;clear NM
 cases hNB:NB with
 | false =>
   subst hNB
   go_wp2_with fail
   refine (gV 42 _).mono ?_;rintro e w9 ⟨rfl,hb⟩;have XN:=zq (XX.o.go hb);clear hb
   go_wp2_with (refine aZ (cs:=bF) (XN.o.get 1 rfl) bI bI rfl rfl rfl rfl ?_)
   refine bodyPost_ret (bZ (cs:=bF) rfl _ _ (setRow_heap _ _ _ _ _ _ (XN.o.get 1 rfl)) bI rfl) rfl (by first|exact fU XN.o (k:=1) rfl (by have e:dY L (k:Int) nm=.no 42:=(by unfold dY;rw[if_pos (by have:=hk'.o;omega),if_neg (fun h=>by have:=EB.o;rw[h.1] at this;cases this)]);rw[e,eF HG.o (by decide)];rfl)|simpa using fU XN.o (k:=1) rfl (by have e:dY L (k:Int) nm=.no 42:=(by unfold dY;rw[if_pos (by have:=hk'.o;omega),if_neg (fun h=>by have:=EB.o;rw[h.1] at this;cases this)]);rw[e,eF HG.o (by decide)];rfl))
 | true =>
   subst hNB
   go_wp2_with (refine bW (XX.o.get 0 rfl) LC.o rfl rfl rfl ?_)
   refine (CP.o w1 XX.o.low HG.o).mono ?_;rintro e w2 ⟨V2,rfl,own,hb⟩;have FF:=zq (rW XX.o own hb);have L2:=zq (iw own.led);unfold aC.val;clear own hb CP
   go_upto_region 14 with (refine aZ (heap_alloc_last _ _) bI L2.o rfl rfl rfl rfl ?_;rw[World.setRow_alloc_new])
   obtain⟨W3,hW3⟩:=Zn (w2.alloc (.cells (V2.cells L) 31));obtain⟨b9,hb9⟩:=Zn w2.heap.size;rw[<-hW3,<-hb9] at FF;rw[<-hW3,<-hb9];clear hW3 hb9;have UA:=zq (aI.Ag hk'.o);obtain⟨g,cg,hv,_,_,hcell,hz⟩:=FF.o.own.ah.slot gq (by decide) UA.o;have HV:=zq hv;have y2:W3.cell? ⟨b9,2,none⟩=some (.slice (some ⟨g,0,none⟩) n2 cg):=FF.o.at_.cell 0 rfl 2 (by rw[N2.o,<-hv];rfl);have q0:W3.cell? ⟨g,k*4,none⟩=some (.string (L.und k).name):=by have:=hcell 0 _ rfl;simpa using this
   have q1:W3.cell? ⟨g,k*4+1,none⟩=some (.int .i64 (L.und k).cur):=hcell 1 _ rfl;have q2:W3.cell? ⟨g,k*4+2,none⟩=some (.int .i64 (L.und k).price):=hcell 2 _ rfl;have q3:W3.cell? ⟨g,k*4+3,none⟩=some (.int .i64 (L.und k).dh):=hcell 3 _ rfl;have k0:(0:Int)<=(k:Int):=by omega
   have k1:(k:Int)<(n2:Int):=by have:=hk'.o;have:=N2.o;omega
   clear hv hcell hz
   go_upto_region 15 with (fail)
   obtain⟨W4,hW4⟩:=Zn (W3.alloc (.cells #[.string (L.und k).name,.int .i64 (L.und k).cur,.int .i64 (L.und k).price,.int .i64 (L.und k).dh] 48));obtain⟨bu,hbu⟩:=Zn W3.heap.size;have F4:=zq (show dS w w1.heap.size ((b9, 31,V2.cells L)::(bu, 48,#[.string (L.und k).name,.int .i64 (L.und k).cur,.int .i64 (L.und k).price,.int .i64 (L.und k).dh])::[(b0, 31,C),(b0+1, 31,bF)]) V2 L W4 from by rw[hW4,hbu];exact FF.o.add1 _ _);rw[<-hW4,<-hbu];clear hW4 hbu y2 q0 q1 q2 q3 FF;have u0:=F4.o.at_.cell 1 rfl 0 rfl;have z0:=F4.o.at_.free 1 rfl 0
   go_upto_region 16 with (fail)
   have F5:=zq (show dS w w1.heap.size ((b9, 31,V2.cells L)::(bu, 48,#[.string nm,.int .i64 (L.und k).cur,.int .i64 (L.und k).price,.int .i64 (L.und k).dh])::[(b0, 31,C),(b0+1, 31,bF)]) V2 L (W4.setCell ⟨bu,0,none⟩ (.string nm)) from F4.o.cell 1 rfl 0 (.string nm));obtain⟨W5,hW5⟩:=Zn (W4.setCell ⟨bu,0,none⟩ (.string nm));rw[<-hW5] at F5;rw[<-hW5];clear hW5 u0 z0 F4;obtain⟨g',cg',hv',_,_,hcell,hz⟩:=F5.o.own.ah.slot gq (by decide) UA.o;obtain⟨rfl,rfl⟩:g=g'/\cg=cg':=by rw[HV.o] at hv';injection hv' with h1 _ h3;injection h1 with h1;injection h1 with h1;exact⟨h1,h3⟩
   have y2:W5.cell? ⟨b9,2,none⟩=some (.slice (some ⟨g,0,none⟩) n2 cg):=F5.o.at_.cell 0 rfl 2 (by rw[N2.o,<-hv'];rfl);have u0:W5.cell? ⟨bu,0,none⟩=some (.string nm):=F5.o.at_.cell 1 rfl 0 rfl;have u1:W5.cell? ⟨bu,1,none⟩=some (.int .i64 (L.und k).cur):=F5.o.at_.cell 1 rfl 1 rfl;have u2:W5.cell? ⟨bu,2,none⟩=some (.int .i64 (L.und k).price):=F5.o.at_.cell 1 rfl 2 rfl;have u3:W5.cell? ⟨bu,3,none⟩=some (.int .i64 (L.und k).dh):=F5.o.at_.cell 1 rfl 3 rfl;have q0:W5.cell? ⟨g,k*4,none⟩=some (.string (L.und k).name):=by have:=hcell 0 _ rfl;simpa using this
   have q1:W5.cell? ⟨g,k*4+1,none⟩=some (.int .i64 (L.und k).cur):=hcell 1 _ rfl;have q2:W5.cell? ⟨g,k*4+2,none⟩=some (.int .i64 (L.und k).price):=hcell 2 _ rfl;have q3:W5.cell? ⟨g,k*4+3,none⟩=some (.int .i64 (L.und k).dh):=hcell 3 _ rfl;have f0:=hz (k*4);have f1:=hz (k*4+1);have f2:=hz (k*4+2);have f3:=hz (k*4+3);obtain⟨M,hM⟩:∃ M:aI,M={ L with ah:=L.ah.set k { L.und k with name:=nm } }:=⟨_,rfl⟩;have F6:=zq (show dS w w1.heap.size ((b9, 31,V2.cells M)::[(b0, 31,C),(b0+1, 31,bF)]) V2 M ((((W5.setCell ⟨g,k*4,none⟩ (.string nm)).setCell ⟨g,k*4+1,none⟩ (.int .i64 (L.und k).cur)).setCell ⟨g,k*4+2,none⟩ (.int .i64 (L.und k).price)).setCell ⟨g,k*4+3,none⟩ (.int .i64 (L.und k).dh)) from by
    rw[hM];exact F5.o.drop1.Qi HV.o UA.o nm HS.o)
   have EM:=zq hM
   go_upto_region 17 with (fail)
   obtain⟨W6,hW6⟩:=Zn ((((W5.setCell ⟨g,k*4,none⟩ (.string nm)).setCell ⟨g,k*4+1,none⟩ (.int .i64 (L.und k).cur)).setCell ⟨g,k*4+2,none⟩ (.int .i64 (L.und k).price)).setCell ⟨g,k*4+3,none⟩ (.int .i64 (L.und k).dh));rw[<-hW6] at F6;rw[show V2.cells L=V2.cells M from by rw[hM];rfl] at L2;rw[<-hW6];clear hW6 hM y2 u0 u1 u2 u3 q0 q1 q2 q3 f0 f1 f2 f3 hv' hcell hz;have LE:=zq (iw F6.o.own.led);have EX:=zq (show dY L (k:Int) nm=(⟨M,(k:Int),0⟩:xW) from by unfold dY;rw[if_pos (by have:=hk'.o;omega),if_pos ⟨EB.o.symm,NE.o⟩,Int.toNat_natCast,EM.o]);have EE:=zq (show jh L (dY L (k:Int) nm)=wL M (k:Int) from by rw[Ap HG.o (by rw[EX.o]),EX.o]);have GE:=zq (show aI.Good M from by
    have:=GOODL.o (by rw[EX.o]);rw[EX.o] at this;exact this)
   have EN:=zq (Dl W6 V2 M F6.o.own.led GE.o (k:Int));unfold aC.val at EN
   go_wp2_with (refine bW (F6.o.at_.get 0 rfl) LE.o rfl rfl rfl ?_)
   refine EN.o.mono ?_;obtain⟨a,ha⟩:=Zn (wL M (k:Int));rw[<-ha] at EE ⊢;rintro e w7 ⟨U,rfl,own,hb⟩;have OW:=zq own;have BB:=zq hb;have X7:=zq (F6.o.at_.go hb);have LU:=zq (iw own.led);unfold aC.val;clear own hb ha EN;go_simp
   go_wp2_with (refine aZ (X7.o.get 2 rfl) bI LU.o rfl rfl rfl rfl ?_)
   exact bodyPost_ret (bZ rfl _ _ (setRow_heap _ _ _ _ _ _ (X7.o.get 2 rfl)) LU.o rfl) rfl (by first|exact vZ F6.o.at_ BB.o OW.o (k:=2) rfl EE.o.symm rfl rfl rfl|simpa using vZ F6.o.at_ BB.o OW.o (k:=2) rfl EE.o.symm rfl rfl rfl)
end Go.Proofs.YtcepekniflaoaaaGreatDoor
