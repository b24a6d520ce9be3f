/- Joined: LawLK, MiLK. -/
import Derived.Test.YtfknkmlocbojhaaGreatDoorHw
import Derived.Test.YtfknkmlocbojhaaGreatDoorHx
import Derived.Test.YtfknkmlocbojhaaGreatDoorHp
import Derived.Test.YtfknkmlocbojhaaGreatDoorGn
import Derived.Test.YtfknkmlocbojhaaGreatDoorGk
import Derived.Test.YtfknkmlocbojhaaGreatDoorGl
import Derived.Test.YtfknkmlocbojhaaGreatDoorHo
import Derived.Test.YtfknkmlocbojhaaGreatDoorHm
set_option linter.unusedVariables false
set_option linter.unusedSimpArgs false
set_option maxRecDepth 100000
set_option maxHeartbeats 16000000
namespace Go.Proofs.YtfknkmlocbojhaaGreatDoor
open Go.RowKit Go.Bw Go.Maps Go.Shelf Go.Bw.Fall
theorem _root_.Go.Bw.aX.Lp {w:World} {B:Nat} {V:aG} {l:aI} (h:aX w B V l):∀ x∈V.rows,∀ k,x.ownBlock=some k->k<w.heap.size:=fun x hx k hk=>(aX.NR h x hx k hk).2
theorem _root_.Go.Bw.aX.Lm {w:World} {B:Nat} {V:aG} {l:aI} (h:aX w B V l):∀ x∈V.rows,∀ k,x.ownBlock=some k->B<=k:=fun x hx k hk=>(aX.NR h x hx k hk).1
theorem pz {α:Type} {w:World} {n:Nat} {f:α->List Value} {v:Value} {l:List α} {m:Nat} (h:RowOf w n f v l) (hm:m=l.length):∃ a c,v=.slice a m c:=by obtain⟨a,c,e⟩:=h.form;exact⟨a,c,by rw[hm];exact e⟩
theorem LJ {L:aI} {c:mO}:(dF L (c.qF L)).1.bulk<=1000000/\∀ a∈(dF L (c.qF L)).1.ai,a.aK.length<=4:=by
 by_cases h:(dF L (c.qF L)).2.2=0
 ·have:=dR (iY (L:=L) (k:=c.k) (u:=c.u) (a:=c.a) (b:=c.b) (s:=c.s) h).1;exact⟨this.1,this.2.1⟩
 rw[(Sr h).1];exact⟨by decide,by simp[L0]⟩
theorem zU (w:World) (V:aG) (L:aI) (h:bJ w V L) (hs0:L.Short) (hG:nV w) (c:mO) (hu:c.s.size<=maxLen) (hx:I64 c.a/\I64 c.b) :
 Calls Tryz.prog 8 #[V.val L,.agg c.cells] w fun e w'=>e=.returned (.bool true)/\Below w.heap.size w w':=by
 classical
 have GR:=zq (fun W (hb:Below w.heap.size w W)=>hG.below hb);have HH:=zq (fun W (hb:Below w.heap.size w W)=>h.below hb);have SH:=zq hs0;have HX:=zq (And.intro hu hx);have WK:=zq (fun W (hb:Below w.heap.size w W)=>jK W (hG.below hb));have WD:=zq (fun W (hb:Below w.heap.size w W)=>mG W V L (h.below hb) hs0);have LC:=zq (iL h);have BK:=zq (show ¬ 1024<L.bulk->L.ai.length<=1024/\L.bulk<=1000000 from fun hb=>by unfold aI.bulk at hb ⊢;omega);have CP:=zq (fun W (hb:Below w.heap.size w W) (hk:L.bulk<=1000000)=>Cb W V L (h.below hb) hk hs0.aK);unfold aG.val at WD CP ⊢;unfold mO.cells;obtain⟨C,hC⟩:=Zn (V.cells L);have EC:=zq hC;rw[<-hC] at WD LC CP ⊢;obtain⟨BB,hBB⟩:=Zn (decide (1024<L.bulk));rw[<-hBB] at WD;have HB:=zq hBB;obtain⟨W0,hW0⟩:=Zn ((w.alloc (.cells C 31)).alloc (.cells #[.int .i64 c.kind,.int .i64 c.u,.int .i64 c.a,.int .i64 c.b,.string c.s] 41));obtain⟨b0,hb0⟩:=Zn w.heap.size;have X0:=zq (show At w W0 [(b0, 31,C),(b0+1, 41,#[.int .i64 c.kind,.int .i64 c.u,.int .i64 c.a,.int .i64 c.b,.string c.s])] from by
  have a:=(((At.start w).alloc 31 C).alloc 41 #[.int .i64 c.kind,.int .i64 c.u,.int .i64 c.a,.int .i64 c.b,.string c.s]);have e:∀ (w:World) (o:Obj),(w.alloc o).heap.size=w.heap.size+1:=fun w o=>by simp
  simp only[e] at a
  rw[<-hW0,<-hb0] at a;exact a)
 clear h hs0 hG hC hBB hu hx
 go_enter Tryz.func8,Tryz.ntmps8
 go_upto_region 1 with (fail)
 rw[<-hW0,<-hb0];clear hW0 hb0
 go_wp2_with fail
 refine (WK.o W0 X0.o.low).mono ?_;rintro e w1 ⟨rfl,hb⟩;have X1:=zq (X0.o.go hb);clear hb X0
 go_wp2_with (refine bM (X1.o.get 0 rfl) LC.o rfl rfl rfl ?_)
 refine (WD.o w1 X1.o.low).mono ?_;rintro e w2 ⟨rfl,hb⟩;have X2:=zq (X1.o.go hb);clear hb X1
 cases hbb:BB with
 | true =>
   subst hbb
   go_wp2_with fail
   go_ret;exact⟨rfl,X2.o.low⟩
 | false =>
   subst hbb;have HL:=zq (BK.o (of_decide_eq_false HB.o.symm))
   go_wp2_with (refine bM (X2.o.get 0 rfl) LC.o rfl rfl rfl ?_)
   refine (CP.o w2 X2.o.low HL.o.2).mono ?_;rintro e u ⟨V1,rfl,own,hb⟩;have Y:=zq (X2.o.go hb);have OM:=zq own;have LM:=zq (iL own.led);unfold aG.val;obtain⟨C5,hC5⟩:=Zn (V1.cells L);have E5:=zq hC5;rw[<-hC5] at LM ⊢;clear own hb hC5 CP
   go_upto_region 6 with (refine bY (heap_alloc_last _ _) eF LM.o rfl rfl rfl rfl ?_;rw[World.setRow_alloc_new])
   obtain⟨W4,hW4⟩:=Zn (u.alloc (.cells C5 31));obtain⟨b5,hb5⟩:=Zn u.heap.size;have X4:=zq (show At w W4 [(b0, 31,C),(b0+1, 41,#[.int .i64 c.kind,.int .i64 c.u,.int .i64 c.a,.int .i64 c.b,.string c.s]),(b5, 31,C5)] from by rw[hW4,hb5];exact Y.o.alloc _ _);have OM4:=zq (show aX W4 w2.heap.size V1 L from by rw[hW4];exact OM.o.below (Zb));rw[<-hW4,<-hb5];clear hW4 hb5 Y OM;obtain⟨M,num,er,hM⟩:∃ M num er,dF L (c.qF L)=(M,num,er):=⟨_,_,_,rfl⟩;have SM:=zq (show M.Short/\M.bulk<=1000000/\∀ a∈M.ai,a.aK.length<=4 from by have h1:=II L (c.qF L);have h2:=LJ (L:=L) (c:=c);rw[hM] at h1 h2;exact⟨h1,h2⟩);have AF:=zq (fun W (hb:Below W4.heap.size W4 W)=>jD W V1 L (OM4.o.led.below hb) HL.o.1 (GR.o W (X4.o.go hb).low) c HX.o.1 HX.o.2.1 HX.o.2.2);rw[hM] at AF;unfold aG.val mO.cells at AF;rw[<-E5.o] at AF;clear hM;have CA:=zq (AF.o W4 (Below.refl _ _));have z0:W4.cell? ⟨b0+1,0,none⟩=some (.int .i64 c.kind):=X4.o.cell 1 rfl 0 rfl;have z1:W4.cell? ⟨b0+1,1,none⟩=some (.int .i64 c.u):=X4.o.cell 1 rfl 1 rfl;have z2:W4.cell? ⟨b0+1,2,none⟩=some (.int .i64 c.a):=X4.o.cell 1 rfl 2 rfl;have z3:W4.cell? ⟨b0+1,3,none⟩=some (.int .i64 c.b):=X4.o.cell 1 rfl 3 rfl;have z4:W4.cell? ⟨b0+1,4,none⟩=some (.string c.s):=X4.o.cell 1 rfl 4 rfl
   go_wp2_with (refine bM (X4.o.get 2 rfl) LM.o rfl rfl rfl ?_)
   refine CA.o.mono ?_;rintro e u6 ⟨U6,rfl,own,hb⟩;have Y6:=zq (X4.o.go hb);have OW6:=zq own;have BL6:=zq hb;have LU6:=zq (iL own.led);unfold aG.val;clear own hb z0 z1 z2 z3 z4;go_simp;have OM6:=zq (OM4.o.below BL6.o);obtain⟨C6,hC6⟩:=Zn (U6.cells M);have E6:=zq hC6;rw[<-hC6] at LU6 ⊢;clear hC6 CA
   go_upto_region 7 with (refine bY (heap_alloc_last _ _) eF LU6.o rfl rfl rfl rfl ?_;rw[World.setRow_alloc_new])
   obtain⟨W6,hW6⟩:=Zn (u6.alloc (.cells C6 31));obtain⟨b6,hb6⟩:=Zn u6.heap.size;have N6:=zq (show Below u6.heap.size u6 W6 from by rw[hW6];exact Zb);have X6:=zq (show At w W6 [(b0, 31,C),(b0+1, 41,#[.int .i64 c.kind,.int .i64 c.u,.int .i64 c.a,.int .i64 c.b,.string c.s]),(b5, 31,C5),(b6, 31,C6)] from by rw[hW6,hb6];exact Y6.o.alloc _ _);have OMb:=zq (OM6.o.below N6.o);have OAb:=zq (OW6.o.below N6.o);have SZ:=zq (show w.heap.size<=W4.heap.size/\b0<W4.heap.size/\b0+1<W4.heap.size/\b5<W4.heap.size/\b6=u6.heap.size/\u6.heap.size<=W6.heap.size from ⟨X4.o.low.size,X4.o.lt (b0, 31,C) (by simp),X4.o.lt (b0+1, 41,#[.int .i64 c.kind,.int .i64 c.u,.int .i64 c.a,.int .i64 c.b,.string c.s]) (by simp),X4.o.lt (b5, 31,C5) (by simp),hb6,N6.o.size⟩);rw[<-hW6,<-hb6];clear hW6 hb6 OM6;have CA:=zq (AF.o W6 (BL6.o.trans (N6.o.mono BL6.o.size)));have z0:W6.cell? ⟨b0+1,0,none⟩=some (.int .i64 c.kind):=X6.o.cell 1 rfl 0 rfl;have z1:W6.cell? ⟨b0+1,1,none⟩=some (.int .i64 c.u):=X6.o.cell 1 rfl 1 rfl;have z2:W6.cell? ⟨b0+1,2,none⟩=some (.int .i64 c.a):=X6.o.cell 1 rfl 2 rfl;have z3:W6.cell? ⟨b0+1,3,none⟩=some (.int .i64 c.b):=X6.o.cell 1 rfl 3 rfl;have z4:W6.cell? ⟨b0+1,4,none⟩=some (.string c.s):=X6.o.cell 1 rfl 4 rfl
   go_wp2_with (refine bM (X6.o.get 2 rfl) LM.o rfl rfl rfl ?_)
   refine CA.o.mono ?_;rintro e u8 ⟨U8,rfl,own,hb⟩;have Y8:=zq (X6.o.go hb);have OW8:=zq own;have BL8:=zq hb;have LU8:=zq (iL own.led);unfold aG.val;clear own hb z0 z1 z2 z3 z4;go_simp;have OM8:=zq (OMb.o.below BL8.o);have OA8:=zq (OAb.o.below BL8.o);obtain⟨C8,hC8⟩:=Zn (U8.cells M);have E8:=zq hC8;rw[<-hC8] at LU8 ⊢;clear hC8 CA AF OMb OAb
   go_upto_region 8 with (refine bY (heap_alloc_last _ _) eF LU8.o rfl rfl rfl rfl ?_;rw[World.setRow_alloc_new])
   obtain⟨WA,hWA⟩:=Zn (u8.alloc (.cells C8 31));obtain⟨b8,hb8⟩:=Zn u8.heap.size;have NA:=zq (show Below u8.heap.size u8 WA from by rw[hWA];exact Zb);have XA:=zq (show At w WA [(b0, 31,C),(b0+1, 41,#[.int .i64 c.kind,.int .i64 c.u,.int .i64 c.a,.int .i64 c.b,.string c.s]),(b5, 31,C5),(b6, 31,C6),(b8, 31,C8)] from by rw[hWA,hb8];exact Y8.o.alloc _ _);have OMA:=zq (OM8.o.below NA.o);have OAA:=zq (OA8.o.below NA.o);have OBA:=zq (OW8.o.below NA.o);have SZ2:=zq (show b8=u8.heap.size/\W6.heap.size<=u8.heap.size/\u8.heap.size<WA.heap.size from ⟨hb8,BL8.o.size,by rw[<-hb8];exact XA.o.lt (b8, 31,C8) (by simp)⟩);rw[<-hWA,<-hb8];clear hWA hb8 Y8 OM8 OA8;have SL:=zq (rO WA V1 V L L OMA.o.led (HH.o WA XA.o.low) SH.o);rw[cZ rfl] at SL;unfold aG.val at SL;rw[<-E5.o,<-EC.o] at SL
   go_wp2_with (first|refine bM (XA.o.get 2 rfl) LM.o rfl rfl rfl ?_|refine bM (XA.o.get 0 rfl) LC.o rfl rfl rfl ?_)
   refine SL.o.mono ?_;rintro e wB ⟨rfl,hb⟩;have XB:=zq (XA.o.go hb);have OMB:=zq (OMA.o.below hb);have OAB:=zq (OAA.o.below hb);have OBB:=zq (OBA.o.below hb);have SB1:=zq hb.size;clear hb SL OMA OAA OBA XA;have SB:=zq (rO wB U6 U8 M M OAB.o.led OBB.o.led SM.o.1);rw[cZ rfl] at SB;unfold aG.val at SB;rw[<-E6.o,<-E8.o] at SB
   go_wp2_with (first|refine fO (XB.o.get 3 rfl) LU6.o (by rfl) rfl rfl ?_|refine fO (XB.o.get 4 rfl) LU8.o (by rfl) rfl rfl ?_)
   refine SB.o.mono ?_;rintro e wC ⟨rfl,hb⟩;have XC:=zq (XB.o.go hb);have OMC:=zq (OMB.o.below hb);have OAC:=zq (OAB.o.below hb);have OBC:=zq (OBB.o.below hb);have SC1:=zq hb.size;clear hb SB OMB OAB OBB XB;have CW:=zq (Cb wC U8 M OBC.o.led SM.o.2.1 (fun a ha=>by have:=SM.o.2.2 a ha;omega));unfold aG.val at CW;rw[<-E8.o] at CW
   go_wp2_with (refine bM (XC.o.get 4 rfl) LU8.o rfl rfl rfl ?_)
   refine CW.o.mono ?_;rintro e wD ⟨U3,rfl,own,hb⟩;have XD:=zq (XC.o.go hb);have OMD:=zq (OMC.o.below hb);have OAD:=zq (OAC.o.below hb);have OBD:=zq (OBC.o.below hb);have OWD:=zq own;have LW:=zq (iL own.led);have SC:=zq (show u8.heap.size<wC.heap.size/\wC.heap.size<=wD.heap.size from ⟨by have:=SB1.o;have:=SC1.o;have:=SZ2.o.2.2;omega,hb.size⟩);unfold aG.val;obtain⟨C10,hC10⟩:=Zn (U3.cells M);have E10:=zq hC10;rw[<-hC10] at LW ⊢;clear own hC10 hb CW XC OMC OAC OBC
   go_upto_region 11 with (refine bY (heap_alloc_last _ _) eF LW.o rfl rfl rfl rfl ?_;rw[World.setRow_alloc_new])
   obtain⟨WE,hWE⟩:=Zn (wD.alloc (.cells C10 31));obtain⟨b10,hb10⟩:=Zn wD.heap.size;have NE:=zq (show Below wD.heap.size wD WE from by rw[hWE];exact Zb);have KZ:=zq (show rq w W4.heap.size u6.heap.size [(b0, 31,C),(b0+1, 41,#[.int .i64 c.kind,.int .i64 c.u,.int .i64 c.a,.int .i64 c.b,.string c.s]),(b5, 31,C5),(b6, 31,C6),(b8, 31,C8),(b10, 31,C10)] V1 L U6 M U8 U3 WE from
    ⟨by rw[hWE,hb10];exact XD.o.alloc _ _,OMD.o.led.below NE.o,OBD.o.led.below NE.o,OWD.o.led.below NE.o,U6,M,⟨OAD.o.below NE.o,OW6.o.Lp,rfl,rfl,rfl,rfl,rfl,rfl,rfl,rfl,rfl,rfl,rfl,rfl,rfl,rfl,rfl,rfl⟩⟩)
   have KK:=zq (show KC w W4.heap.size u6.heap.size [(b0, 31,C),(b0+1, 41,#[.int .i64 c.kind,.int .i64 c.u,.int .i64 c.a,.int .i64 c.b,.string c.s]),(b5, 31,C5),(b6, 31,C6),(b8, 31,C8),(b10, 31,C10)] V1 U8 U3 from by
    have h1:=SZ.o;have h2:=SZ2.o;have h3:=SC.o;refine⟨h1.1,fun x hx=>?_,OM4.o.Lp,fun x hx k hk=>by have:=OW8.o.Lm x hx k hk;omega,fun x hx k hk=>by have:=OWD.o.Lm x hx k hk;omega⟩
    simp at hx
    rcases hx with rfl|rfl|rfl|rfl|rfl|rfl <;> simp <;> omega)
   rw[<-hWE,<-hb10];clear hWE hb10 NE XD OMD OAD OBD OWD;obtain⟨n2,hn2⟩:=Zn M.ah.length;obtain⟨n3,hn3⟩:=Zn M.af.length;obtain⟨n4,hn4⟩:=Zn M.ai.length;obtain⟨n5,hn5⟩:=Zn M.aC.length;obtain⟨n7,hn7⟩:=Zn M.aH.length;obtain⟨n8,hn8⟩:=Zn M.aP.length;have hnm:n2<=1000000/\n3<=1000000/\n4<=1000000/\n5<=1000000/\n7<=1000000/\n8<=1000000:=by have h:=SM.o.2.1;unfold aI.bulk at h;omega
   obtain⟨m2,m3,m4,m5,m7,m8⟩:=hnm;obtain⟨a2,c2,h2⟩:=pz OW6.o.led.ah hn2;obtain⟨a3,c3,h3⟩:=pz OW6.o.led.af hn3;obtain⟨a4,c4,h4⟩:=pz OW6.o.led.ai (hn4.trans (by rw[OW6.o.same,List.length_map]));obtain⟨a5,c5,h5⟩:=pz OW6.o.led.aC hn5;obtain⟨a7,c7,h7⟩:=pz OW6.o.led.aH hn7;obtain⟨a8,c8,h8⟩:=pz OW6.o.led.aP hn8;have N2:=zq hn2;have F2:=zq h2;have G2:=zq (show C6[2]?=some (.slice a2 n2 c2) from by rw[E6.o,<-h2];rfl);have N3:=zq hn3;have F3:=zq h3;have G3:=zq (show C6[3]?=some (.slice a3 n3 c3) from by rw[E6.o,<-h3];rfl);have N4:=zq hn4;have F4:=zq h4;have G4:=zq (show C6[4]?=some (.slice a4 n4 c4) from by rw[E6.o,<-h4];rfl);have N5:=zq hn5;have F5:=zq h5;have G5:=zq (show C6[5]?=some (.slice a5 n5 c5) from by rw[E6.o,<-h5];rfl);have N7:=zq hn7;have F7:=zq h7;have G7:=zq (show C6[7]?=some (.slice a7 n7 c7) from by rw[E6.o,<-h7];rfl);have N8:=zq hn8;have F8:=zq h8;have G8:=zq (show C6[8]?=some (.slice a8 n8 c8) from by rw[E6.o,<-h8];rfl);clear hn2 h2 hn3 h3 hn4 h4 hn5 h5 hn7 h7 hn8 h8 OM4 OW6 OW8 X2 X4 X6 Y6 N6 NA BL6 BL8;have y4:WE.cell? ⟨b6,4,none⟩=some (.slice a4 n4 c4):=KZ.o.at_.cell 3 rfl 4 G4.o
   go_wp2_with fail
   go_loopw [55] (fun i wr=>∃ k:Nat,k<=n4/\i=.int .i64 k/\∃ W,W=wr/\Hid (rq w W4.heap.size u6.heap.size [(b0, 31,C),(b0+1, 41,#[.int .i64 c.kind,.int .i64 c.u,.int .i64 c.a,.int .i64 c.b,.string c.s]),(b5, 31,C5),(b6, 31,C6),(b8, 31,C8),(b10, 31,C10)] V1 L U6 M U8 U3 W)) (fun i _=>n4 - (intOf i).toNat)
   case atStart=>exact⟨0,Nat.zero_le _,rfl,_,rfl,KZ⟩
   clear KZ y4;obtain⟨k,hk,rfl,W,rfl,KZ⟩:=hrel;by_cases hlt:k<n4
   ·have hlt':(k:Int)<(n4:Int):=by omega
    have LT_:=zq hlt;obtain⟨g,pa,n,pc,ea,yc,hn,KI⟩:=KZ.o.inn (a:=a4) (c:=c4) (by rw[<-N4.o];exact hlt) (by rw[<-N4.o];exact F4.o);subst ea;have HI:=zq KI;have y4:W.cell? ⟨b6,4,none⟩=some (.slice (some ⟨g,0,none⟩) n4 c4):=KZ.o.at_.cell 3 rfl 4 G4.o;have hn':n<=9223372036854775807:=hn;clear KI KZ hn
    go_wp2_with fail
    clear yc y4
    go_loopw [65] (fun i wr=>∃ j:Nat,j<=n/\i=.int .i64 j/\∃ pa W,W=wr/\Hid (UR w W4.heap.size u6.heap.size [(b0, 31,C),(b0+1, 41,#[.int .i64 c.kind,.int .i64 c.u,.int .i64 c.a,.int .i64 c.b,.string c.s]),(b5, 31,C5),(b6, 31,C6),(b8, 31,C8),(b10, 31,C10)] V1 L U6 M U8 U3 k n pa pc W)) (fun i _=>n - (intOf i).toNat)
    case atStart=>exact⟨0,Nat.zero_le _,rfl,_,_,rfl,HI⟩
    clear HI;obtain⟨j,hj,rfl,pa,W,rfl,KI⟩:=hrel;by_cases hjt:j<n
    ·have hjt':(j:Int)<(n:Int):=by omega
     have JT:=zq hjt;obtain⟨gp,y,e,z1,z2,z3,z4⟩:=KI.o.put (c:=c4) (x:=-9) KK.o hjt (by rw[<-N4.o];exact F4.o) (by omega);subst e;have ZN:=zq z4;have y4:W.cell? ⟨b6,4,none⟩=some (.slice (some ⟨g,0,none⟩) n4 c4):=KI.o.1.at_.cell 3 rfl 4 G4.o;clear z4
     go_wp2_with fail
     go_roundw
     case rel=>exact⟨j+1,by have:=JT.o;omega,by go_num,_,_,rfl,ZN⟩
     case measure=>have:=JT.o;simp[intOf];omega
    have hjt':¬ (j:Int)<(n:Int):=by omega
    obtain⟨g',eg,⟨u0,v1,v2,v3,u2,u3,d0,d1,d2,d3⟩,zf,KB⟩:=KI.o.1.blank (a:=some ⟨g,0,none⟩) (c:=c4) KK.o (by rw[<-N4.o];exact LT_.o) (by rw[<-N4.o];exact F4.o);obtain rfl:g=g':=by injection eg with eg;injection eg
    have HBk:=zq KB;have y4:W.cell? ⟨b6,4,none⟩=some (.slice (some ⟨g,0,none⟩) n4 c4):=KI.o.1.at_.cell 3 rfl 4 G4.o;clear KB eg
    go_wp2_with fail
    go_roundw
    case rel=>exact⟨k+1,by have:=LT_.o;omega,by go_num,_,rfl,HBk⟩
    case measure=>have:=LT_.o;simp[intOf];omega
   have hlt':¬ (k:Int)<(n4:Int):=by omega
   obtain rfl:n4=k:=by omega
   have y5:W.cell? ⟨b6,2,none⟩=some (.slice a2 n2 c2):=KZ.o.at_.cell 3 rfl 2 G2.o
   go_wp2_with fail
   go_loopw [86] (fun i wr=>∃ k:Nat,k<=n2/\i=.int .i64 k/\∃ W,W=wr/\Hid (rq w W4.heap.size u6.heap.size [(b0, 31,C),(b0+1, 41,#[.int .i64 c.kind,.int .i64 c.u,.int .i64 c.a,.int .i64 c.b,.string c.s]),(b5, 31,C5),(b6, 31,C6),(b8, 31,C8),(b10, 31,C10)] V1 L U6 M U8 U3 W)) (fun i _=>n2 - (intOf i).toNat)
   case atStart=>exact⟨0,Nat.zero_le _,rfl,_,rfl,KZ⟩
   clear KZ y5;obtain⟨k,hk,rfl,W,rfl,KZ⟩:=hrel;by_cases hlt:k<n2
   ·have hlt':(k:Int)<(n2:Int):=by omega
    have LT_:=zq hlt;obtain⟨g,ea,⟨x,d0,d1,d2,d3⟩,zf,KB⟩:=KZ.o.Dn (a:=a2) (c:=c2) KK.o (by rw[<-N2.o];exact hlt) (by rw[<-N2.o];exact F2.o);subst ea;have HBk:=zq KB;have y5:W.cell? ⟨b6,2,none⟩=some (.slice (some ⟨g,0,none⟩) n2 c2):=KZ.o.at_.cell 3 rfl 2 G2.o;clear KB
    go_wp2_with fail
    go_roundw
    case rel=>exact⟨k+1,by have:=LT_.o;omega,by go_num,_,rfl,HBk⟩
    case measure=>have:=LT_.o;simp[intOf];omega
   have hlt':¬ (k:Int)<(n2:Int):=by omega
   obtain rfl:n2=k:=by omega
   have y5:W.cell? ⟨b6,3,none⟩=some (.slice a3 n3 c3):=KZ.o.at_.cell 3 rfl 3 G3.o
   go_wp2_with fail
   go_loopw [98] (fun i wr=>∃ k:Nat,k<=n3/\i=.int .i64 k/\∃ W,W=wr/\Hid (rq w W4.heap.size u6.heap.size [(b0, 31,C),(b0+1, 41,#[.int .i64 c.kind,.int .i64 c.u,.int .i64 c.a,.int .i64 c.b,.string c.s]),(b5, 31,C5),(b6, 31,C6),(b8, 31,C8),(b10, 31,C10)] V1 L U6 M U8 U3 W)) (fun i _=>n3 - (intOf i).toNat)
   case atStart=>exact⟨0,Nat.zero_le _,rfl,_,rfl,KZ⟩
   clear KZ y5;obtain⟨k,hk,rfl,W,rfl,KZ⟩:=hrel;by_cases hlt:k<n3
   ·have hlt':(k:Int)<(n3:Int):=by omega
    have LT_:=zq hlt;obtain⟨g,ea,⟨x,d0,d1,d2,d3,d4,d5,d6⟩,zf,KB⟩:=KZ.o.Dl (a:=a3) (c:=c3) KK.o (by rw[<-N3.o];exact hlt) (by rw[<-N3.o];exact F3.o);subst ea;have HBk:=zq KB;have y5:W.cell? ⟨b6,3,none⟩=some (.slice (some ⟨g,0,none⟩) n3 c3):=KZ.o.at_.cell 3 rfl 3 G3.o;clear KB
    go_wp2_with fail
    go_roundw
    case rel=>exact⟨k+1,by have:=LT_.o;omega,by go_num,_,rfl,HBk⟩
    case measure=>have:=LT_.o;simp[intOf];omega
   have hlt':¬ (k:Int)<(n3:Int):=by omega
   obtain rfl:n3=k:=by omega
   have y5:W.cell? ⟨b6,5,none⟩=some (.slice a5 n5 c5):=KZ.o.at_.cell 3 rfl 5 G5.o
   go_wp2_with fail
   go_loopw [110] (fun i wr=>∃ k:Nat,k<=n5/\i=.int .i64 k/\∃ W,W=wr/\Hid (rq w W4.heap.size u6.heap.size [(b0, 31,C),(b0+1, 41,#[.int .i64 c.kind,.int .i64 c.u,.int .i64 c.a,.int .i64 c.b,.string c.s]),(b5, 31,C5),(b6, 31,C6),(b8, 31,C8),(b10, 31,C10)] V1 L U6 M U8 U3 W)) (fun i _=>n5 - (intOf i).toNat)
   case atStart=>exact⟨0,Nat.zero_le _,rfl,_,rfl,KZ⟩
   clear KZ y5;obtain⟨k,hk,rfl,W,rfl,KZ⟩:=hrel;by_cases hlt:k<n5
   ·have hlt':(k:Int)<(n5:Int):=by omega
    have LT_:=zq hlt;obtain⟨g,ea,⟨x,d0,d1,d2⟩,zf,KB⟩:=KZ.o.I7 (a:=a5) (c:=c5) KK.o (by rw[<-N5.o];exact hlt) (by rw[<-N5.o];exact F5.o);subst ea;have HBk:=zq KB;have y5:W.cell? ⟨b6,5,none⟩=some (.slice (some ⟨g,0,none⟩) n5 c5):=KZ.o.at_.cell 3 rfl 5 G5.o;clear KB
    go_wp2_with fail
    go_roundw
    case rel=>exact⟨k+1,by have:=LT_.o;omega,by go_num,_,rfl,HBk⟩
    case measure=>have:=LT_.o;simp[intOf];omega
   have hlt':¬ (k:Int)<(n5:Int):=by omega
   obtain rfl:n5=k:=by omega
   have y5:W.cell? ⟨b6,7,none⟩=some (.slice a7 n7 c7):=KZ.o.at_.cell 3 rfl 7 G7.o
   go_wp2_with fail
   go_loopw [122] (fun i wr=>∃ k:Nat,k<=n7/\i=.int .i64 k/\∃ W,W=wr/\Hid (rq w W4.heap.size u6.heap.size [(b0, 31,C),(b0+1, 41,#[.int .i64 c.kind,.int .i64 c.u,.int .i64 c.a,.int .i64 c.b,.string c.s]),(b5, 31,C5),(b6, 31,C6),(b8, 31,C8),(b10, 31,C10)] V1 L U6 M U8 U3 W)) (fun i _=>n7 - (intOf i).toNat)
   case atStart=>exact⟨0,Nat.zero_le _,rfl,_,rfl,KZ⟩
   clear KZ y5;obtain⟨k,hk,rfl,W,rfl,KZ⟩:=hrel;by_cases hlt:k<n7
   ·have hlt':(k:Int)<(n7:Int):=by omega
    have LT_:=zq hlt;obtain⟨g,ea,⟨x,d0⟩,zf,KB⟩:=KZ.o.EJ (a:=a7) (c:=c7) KK.o (by rw[<-N7.o];exact hlt) (by rw[<-N7.o];exact F7.o);subst ea;have HBk:=zq KB;have y5:W.cell? ⟨b6,7,none⟩=some (.slice (some ⟨g,0,none⟩) n7 c7):=KZ.o.at_.cell 3 rfl 7 G7.o;clear KB
    go_wp2_with fail
    go_roundw
    case rel=>exact⟨k+1,by have:=LT_.o;omega,by go_num,_,rfl,HBk⟩
    case measure=>have:=LT_.o;simp[intOf];omega
   have hlt':¬ (k:Int)<(n7:Int):=by omega
   obtain rfl:n7=k:=by omega
   have y5:W.cell? ⟨b6,8,none⟩=some (.slice a8 n8 c8):=KZ.o.at_.cell 3 rfl 8 G8.o
   go_wp2_with fail
   go_loopw [133] (fun i wr=>∃ k:Nat,k<=n8/\i=.int .i64 k/\∃ W,W=wr/\Hid (rq w W4.heap.size u6.heap.size [(b0, 31,C),(b0+1, 41,#[.int .i64 c.kind,.int .i64 c.u,.int .i64 c.a,.int .i64 c.b,.string c.s]),(b5, 31,C5),(b6, 31,C6),(b8, 31,C8),(b10, 31,C10)] V1 L U6 M U8 U3 W)) (fun i _=>n8 - (intOf i).toNat)
   case atStart=>exact⟨0,Nat.zero_le _,rfl,_,rfl,KZ⟩
   clear KZ y5;obtain⟨k,hk,rfl,W,rfl,KZ⟩:=hrel;by_cases hlt:k<n8
   ·have hlt':(k:Int)<(n8:Int):=by omega
    have LT_:=zq hlt;obtain⟨g,ea,⟨x,d0,d1,d2⟩,zf,KB⟩:=KZ.o.IZ (a:=a8) (c:=c8) KK.o (by rw[<-N8.o];exact hlt) (by rw[<-N8.o];exact F8.o);subst ea;have HBk:=zq KB;have y5:W.cell? ⟨b6,8,none⟩=some (.slice (some ⟨g,0,none⟩) n8 c8):=KZ.o.at_.cell 3 rfl 8 G8.o;clear KB
    go_wp2_with fail
    go_roundw
    case rel=>exact⟨k+1,by have:=LT_.o;omega,by go_num,_,rfl,HBk⟩
    case measure=>have:=LT_.o;simp[intOf];omega
   have hlt':¬ (k:Int)<(n8:Int):=by omega
   obtain rfl:n8=k:=by omega
   have X:=zq KZ.o.at_;have OM:=zq KZ.o.mine;have OB:=zq (And.intro KZ.o.b KZ.o.want);clear KZ;have SL:=zq (rO W V1 V L L OM.o (HH.o W X.o.low) SH.o);rw[cZ rfl] at SL;unfold aG.val at SL;rw[<-E5.o,<-EC.o] at SL
   go_wp2_with (first|refine bM (X.o.get 2 rfl) LM.o rfl rfl rfl ?_|refine bM (X.o.get 0 rfl) LC.o rfl rfl rfl ?_)
   refine SL.o.mono ?_;rintro e wF ⟨rfl,hb⟩;have XF:=zq (X.o.go hb);have OBF:=zq (And.intro (OB.o.1.below hb) (OB.o.2.below hb));clear hb SL OM OB X;have SB:=zq (rO wF U8 U3 M M OBF.o.1 OBF.o.2 SM.o.1);rw[cZ rfl] at SB;unfold aG.val at SB;rw[<-E8.o,<-E10.o] at SB
   go_wp2_with (first|refine fO (XF.o.get 4 rfl) LU8.o (by rfl) rfl rfl ?_|refine fO (XF.o.get 5 rfl) LW.o (by rfl) rfl rfl ?_)
   refine SB.o.mono ?_;rintro e wG ⟨rfl,hb⟩;have XG:=zq (XF.o.go hb);clear hb
   go_wp2_with fail
   go_ret;exact⟨rfl,XG.o.low⟩
end Go.Proofs.YtfknkmlocbojhaaGreatDoor
namespace Go.Proofs.YtfknkmlocbojhaaGreatDoor
open Go.RowKit Go.Bw Go.Maps Go.WideShapes
theorem DR (W:World) (n0:Array Value) (n1:Array Value) (V0:dw Tryz.prog W 31 n0.toList) (V1:dw Tryz.prog W 41 n1.toList) (HL:nV W) :
 Calls Tryz.prog 8 #[.agg n0,.agg n1] W fun e w'=>e=.returned (.bool true)/\Below W.heap.size W w':=by
 obtain⟨V,l,e,h,s⟩:=DJ V0;obtain⟨c,rfl,hs,ha,hb⟩:=DI V1;rw[e];exact zU W V l h s HL c hs ⟨ha,hb⟩
end Go.Proofs.YtfknkmlocbojhaaGreatDoor
