/- Joined: AdmE, RLifL. -/
import Derived.Test.YtcepekniflaoaaaGreatDoorHc
import Derived.Test.YtcepekniflaoaaaGreatDoorGi
import Derived.Test.YtcepekniflaoaaaGreatDoorHv
import Derived.Test.YtcepekniflaoaaaGreatDoorLifL
set_option linter.unusedVariables false
set_option linter.unusedSimpArgs false
set_option maxRecDepth 100000
set_option maxHeartbeats 8000000
namespace Go.Proofs.YtcepekniflaoaaaGreatDoor
open Go.RowKit Go.Bw Go.Maps Go.Shelf Go.Bw.Fall
theorem Oq (i:Ins) (u:dY) (n m:Nat) (hi:i.Ok n) (hu:u.Ok m) (day:Int) (d0:0<=day) (d1:day<=100000) (w:World) :
 Calls Tryz.prog 57 #[.agg #[.int .i64 i.kind,.int .i64 i.under,.int .i64 i.mult,.int .i64 i.strike,.int .i64 i.aJ,.bool i.call,.int .i64 i.mark],.agg #[.string u.name,.int .i64 u.cur,.int .i64 u.price,.int .i64 u.di],.int .i64 day] w fun e w'=>e=.returned (.tuple #[.int .i64 (kF i u.price u.di day).1,.int .i64 0])/\Below w.heap.size w w':=by
 obtain⟨_,_,_,p0,p1,v0,v1⟩:=hu;have FI:=zq (fun W=>vX u.price u.di (by omega) p1 v0 v1 W);have U:=zq (fun W=>zJ i n hi u.price u.di day (by omega) (by omega) v0 (by omega) d0 d1 W);obtain⟨r,hr⟩:=Zn ((kF i u.price u.di day).1);rw[<-hr] at U ⊢;have B:=zq (show ∀ c1 c2,Below w.heap.size w ((w.alloc (.cells c1 66)).alloc (.cells c2 48)) from fun c1 c2=>(Zb).alloc (by simp) _);clear hr hi d0 d1 p0 p1 v0 v1
 go_enter Tryz.func57,Tryz.ntmps57
 go_wp2_with fail
 refine (FI.o _).mono ?_;rintro e w' ⟨rfl,rfl⟩
 go_wp2_with fail
 refine (U.o _).mono ?_;rintro e w' ⟨rfl,hb⟩;have BB:=zq ((B.o _ _).trans (hb.mono (B.o _ _).size));clear hb
 go_wp2_with fail
 go_ret2;exact⟨rfl,BB.o⟩
theorem _root_.Go.Bw.dA.Pn {w W:World} {R0:Nat} {bs:List (Nat×TypeId×Array Value)} {V:aB} {l:aI} (F:dA w R0 bs V l W) {g c k:Nat} (hv:V.af=.slice (some ⟨g,0,none⟩) l.af.length c) {x:Ins} (hk:l.af[k]?=some x)
 (hc:∀ (o:Nat) u,(Ins.cells x)[o]?=some u->W.cell? ⟨g,k*7+o,none⟩=some u) (m:Int) :
 dA w R0 bs V { l with af:=l.af.set k { x with mark:=m } } (((((((W.setCell ⟨g,k*7,none⟩ (.int .i64 x.kind)).setCell ⟨g,k*7+1,none⟩ (.int .i64 x.under)).setCell ⟨g,k*7+2,none⟩ (.int .i64 x.mult)).setCell ⟨g,k*7+3,none⟩ (.int .i64 x.strike)).setCell ⟨g,k*7+4,none⟩ (.int .i64 x.aJ)).setCell ⟨g,k*7+5,none⟩ (.bool x.call)).setCell ⟨g,k*7+6,none⟩ (.int .i64 m)):=by
 have c0:W.cell? ⟨g,k*7,none⟩=some (.int .i64 x.kind):=by have:=hc 0 _ rfl;simpa using this
 rw[eF c0,eF (hc 1 _ rfl),eF (hc 2 _ rfl),eF (hc 3 _ rfl),eF (hc 4 _ rfl),eF (hc 5 _ rfl)];exact F.mark hv hk m
theorem _root_.Go.Bw.dA.Ob {w W W':World} {R0 b:Nat} {bs:List (Nat×TypeId×Array Value)} {V:aB} {l L:aI} {T:TypeId} (h:dA w R0 ((b,T,V.cells L)::bs) V l W) (hm:Mod (fun k=>V.au.ownBlock=some k) W W') {v:Value} {xs:List Pos} (ho:aV W' R0 50 3 Pos.cells v xs) (hb:∀ k,v.ownBlock=some k->V.au.ownBlock=some k\/W.heap.size<=k) :
 dA w R0 ((b,T,({ V with au:=v }:aB).cells L)::bs) { V with au:=v } { l with au:=xs } (W'.setCell ⟨b,5,none⟩ v):=by
 have f:=h.Ap (h.own.xP hm ho hb) hm (q:=4) rfl rfl hb;exact f.cell 0 rfl 5 v
structure nN (w:World) (R1 b9:Nat) (bs:List (Nat×TypeId×Array Value)) (L:aI) (k:Nat) (V':aB) (M:aI) (W':World):Prop where
 fM:dA w R1 ((b9, 31,V'.cells M)::bs) V' M W'
 go:fK k (L.af.drop k) M=fK 0 L.af L
 dV:jK L M
 row:∀ j:Nat,k<=j->M.af[j]?=L.af[j]?
theorem nN.more {w:World} {R1 b9:Nat} {bs:List (Nat×TypeId×Array Value)} {L:aI} {k:Nat} {V':aB} {M:aI} {W':World} (h:nN w R1 b9 bs L k V' M W') (T:TypeId) (cells:Array Value):nN w R1 b9 ((W'.heap.size,T,cells)::bs) L k V' M (W'.alloc (.cells cells T)):=⟨h.fM.add1 T cells,h.go,h.dV,h.row⟩
theorem nN.Bc {w:World} {R1 b9:Nat} {bs:List (Nat×TypeId×Array Value)} {L:aI} {k:Nat} {V':aB} {M:aI} {W' W2:World} (h:nN w R1 b9 bs L k V' M W') (hb:Below W'.heap.size W' W2):nN w R1 b9 bs L k V' M W2:=⟨h.fM.go hb,h.go,h.dV,h.row⟩
theorem nN.skip {w:World} {R1 b9:Nat} {bs:List (Nat×TypeId×Array Value)} {L:aI} {k:Nat} {V':aB} {M:aI} {W':World} (h:nN w R1 b9 bs L k V' M W') {i:Ins} (hi:L.af[k]?=some i) (hn:¬ (i.aJ=0\/L.day<=i.aJ)):nN w R1 b9 bs L (k+1) V' M W' :=
 ⟨h.fM,by rw[<-h.go,drop_at hi,wY (by rw[h.dV.day];exact hn)],h.dV,fun j hj=>h.row j (by omega)⟩
theorem nN.next {w:World} {R1 b9:Nat} {bs cs:List (Nat×TypeId×Array Value)} {L:aI} {k:Nat} {V' V2:aB} {M N:aI} {W' W2:World} (h:nN w R1 b9 bs L k V' M W') {i x:Ins} (hi:L.af[k]?=some i) (hn:i.aJ=0\/L.day<=i.aJ) (he:dI M k=(N,0)) (hN:N.af=M.af.set k x)
 (F:dA w R1 ((b9, 31,V2.cells N)::cs) V2 N W2):nN w R1 b9 cs L (k+1) V2 N W2:=by
 have hkl:k<M.af.length:=by rw[h.dV.lens];exact (List.getElem?_eq_some_iff.1 hi).1
 have e1:(dI M k).1=N:=by rw[he]
 have e2:(dI M k).2=0:=by rw[he]
 have D:=nJ h.dV.good hkl e2;rw[e1] at D;refine⟨F,by rw[<-h.go,drop_at hi,wZ (by rw[h.dV.day];exact hn) e2,e1],h.dV.trans D,fun j hj=>?_⟩;rw[hN,List.getElem?_set,if_neg (by omega)];exact h.row j (by omega)
theorem nN.ins_eq {w:World} {R1 b9:Nat} {bs:List (Nat×TypeId×Array Value)} {L:aI} {k:Nat} {V':aB} {M:aI} {W':World} (h:nN w R1 b9 bs L k V' M W'):M.ins (k:Int)=L.ins (k:Int):=by
 have:=h.row k (Nat.le_refl _);unfold aI.ins;rw[Int.toNat_natCast,List.getD_eq_getElem?_getD,List.getD_eq_getElem?_getD,this]
theorem nN.Qq {w:World} {R1 b9:Nat} {bs:List (Nat×TypeId×Array Value)} {L:aI} {k:Nat} {V':aB} {M:aI} {W':World} (h:nN w R1 b9 bs L k V' M W'):M.cZ (k:Int)=L.cZ (k:Int):=by
 unfold aI.cZ aI.und;rw[h.ins_eq,h.dV.ah]
theorem keep_next {α:Type} {l:List α} {k:Nat} {x:α} (h:l[k]?=some x) (f:α->Bool):(l.take (k+1)).filter f=(l.take k).filter f++if f x=true then [x] else []:=by
 rw[List.take_add_one,h,List.filter_append]
 simp only[Option.toList,List.filter_cons,List.filter_nil]
theorem D7 (w:World) (V:aB) (L:aI) (h:bJ w V L) (hL:L.ai.length<=1024) :
 Calls Tryz.prog 16 #[V.val L] w (oH w (jD L (jT L))):=by
 classical
 have LC:=zq (iT h);have HH:=zq h;have GD:=zq (show ∀ W,Below w.heap.size w W->∀ B:Bool,decide L.Good=B->Calls Tryz.prog 31 #[V.val L] W fun e w'=>e=.returned (.bool B)/\Below W.heap.size W w' from fun W hb B hB=>Oj (h.below hb) hL hB);have CP:=zq (fun W (hb:Below w.heap.size w W) (hg:L.Good)=>uQ W V L (h.below hb) (iw hg).1 (fun a ha=>by have:=(iw hg).2.1 a ha;omega));unfold aB.val at GD CP ⊢;obtain⟨C,hC⟩:=Zn (V.cells L);have EC:=zq hC;rw[<-hC] at GD CP LC ⊢;obtain⟨W0,hW0⟩:=Zn ((w.alloc (.cells C 31)).alloc (.cells #[.int .i64 0,.slice none 0 0,.slice none 0 0,.slice none 0 0,.slice none 0 0,.slice none 0 0,.slice none 0 0,.slice none 0 0,.slice none 0 0] 31));obtain⟨b0,hb0⟩:=Zn w.heap.size;have X0:=zq (show At w W0 [(b0, 31,C),(b0+1, 31,bI)] from by
  have a:=(((At.start w).alloc 31 C).alloc 31 #[.int .i64 0,.slice none 0 0,.slice none 0 0,.slice none 0 0,.slice none 0 0,.slice none 0 0,.slice none 0 0,.slice none 0 0,.slice none 0 0]);have e:∀ (w:World) (o:Obj),(w.alloc o).heap.size=w.heap.size+1:=fun w o=>by simp
  simp only[e] at a
  rw[<-hW0,<-hb0] at a;exact a)
 clear h hL hC
 go_enter Tryz.func16,Tryz.ntmps16
 go_upto_region 1 with (fail)
 rw[<-hW0,<-hb0];clear hW0 hb0
 go_wp2_with (refine dm (X0.o.get 0 rfl) LC.o rfl rfl rfl ?_)
 by_cases hg:L.Good;rotate_left
 ·refine (GD.o W0 X0.o.low false (decide_eq_false hg)).mono ?_;rintro e w1 ⟨rfl,hb⟩;have XX:=zq (X0.o.go hb);have HG:=zq hg;clear hb X0 hg GD
  go_wp2_with fail
  refine (oD 43 _).mono ?_;rintro e w9 ⟨rfl,hb⟩;have XN:=zq (XX.o.go hb);clear hb
  go_wp2_with (refine bH (cs:=bI) (XN.o.get 1 rfl) bU bU rfl rfl rfl rfl ?_)
  refine bodyPost_ret (dU (cs:=bI) rfl _ _ (setRow_heap _ _ _ _ _ _ (XN.o.get 1 rfl)) bU rfl) rfl (by first|exact nG XN.o (k:=1) rfl (sG HG.o _)|simpa using nG XN.o (k:=1) rfl (sG HG.o _))
 refine (GD.o W0 X0.o.low true (decide_eq_true hg)).mono ?_;rintro e w1 ⟨rfl,hb⟩;have XX:=zq (X0.o.go hb);have HG:=zq hg;clear hb X0 hg GD;have GOODL:=zq (fun (he:(jT L).err=0)=>yV HG.o he);have AC:=zq (l9 HG.o);have D0:=zq (And.intro HG.o.d0 HG.o.d1);obtain⟨d,hd⟩:=Zn L.day;have ED:=zq hd;have y0:w1.cell? ⟨b0,0,none⟩=some (.int .i64 d):=XX.o.cell 0 rfl 0 (by rw[EC.o,hd];rfl);clear hd;by_cases h1:d<100000;rotate_left
 ·have h1':(100000:Int)<=d:=by omega
  have WHY:=zq (show jD L (jT L)=(L0,0,41) from by
   have e:jT L=.no 41:=by unfold jT;rw[if_neg (by have:=ED.o;omega)]
   rw[e,pY HG.o (by decide)];rfl)
  clear h1
  go_wp2_with fail
  refine (oD 41 _).mono ?_;rintro e w9 ⟨rfl,hb⟩;have XN:=zq (XX.o.go hb);clear hb
  go_wp2_with (refine bH (cs:=bI) (XN.o.get 1 rfl) bU bU rfl rfl rfl rfl ?_)
  refine bodyPost_ret (dU (cs:=bI) rfl _ _ (setRow_heap _ _ _ _ _ _ (XN.o.get 1 rfl)) bU rfl) rfl (by first|exact nG XN.o (k:=1) rfl (WHY.o)|simpa using nG XN.o (k:=1) rfl (WHY.o))
 have h1':¬ (100000:Int)<=d:=by omega
 have HD:=zq (show L.day<100000 from by rw[<-ED.o];exact h1);clear h1
 go_wp2_with (refine dm (XX.o.get 0 rfl) LC.o rfl rfl rfl ?_)
 refine (CP.o w1 XX.o.low HG.o).mono ?_;rintro e w2 ⟨V2,rfl,own,hb⟩;have FF:=zq (xg XX.o own hb);have L2:=zq (iT own.led);unfold aB.val;clear own hb CP
 go_upto_region 6 with (refine bH (heap_alloc_last _ _) bU L2.o rfl rfl rfl rfl ?_;rw[World.setRow_alloc_new])
 obtain⟨W3,hW3⟩:=Zn (w2.alloc (.cells (V2.cells L) 31));obtain⟨b9,hb9⟩:=Zn w2.heap.size;rw[<-hW3,<-hb9] at FF;rw[<-hW3,<-hb9];clear hW3 hb9;clear y0 h1';obtain⟨R1,hR1⟩:=Zn w1.heap.size;rw[<-hR1] at FF;have HR1:=zq (show w.heap.size<=R1 from by rw[hR1];exact XX.o.low.size);clear hR1 XX;have ES:=zq (show jT L=if (fK 0 L.af L).2=0 then ⟨{ (fK 0 L.af L).1 with day:=L.day+1,au:=L.au.filter (fun p=>mJ L.day (L.ins p.instr)),orders:=[],aN:=[],aG:=List.replicate L.af.length 0 },L.day+1,0⟩ else .no (fK 0 L.af L).2 from by unfold jT;rw[if_pos HD.o]);obtain⟨a5,c5,e5⟩:=HH.o.au.form;obtain⟨a3,c3,e3⟩:=HH.o.af.form;obtain⟨a2,c2,e2⟩:=HH.o.ah.form;have E5:=zq e5;have E3:=zq e3;have E2:=zq e2;obtain⟨n5,hn5⟩:=Zn L.au.length;obtain⟨n3,hn3⟩:=Zn L.af.length;obtain⟨n2,hn2⟩:=Zn L.ah.length;have N5:=zq hn5;have N3:=zq hn3;have N2:=zq hn2;have U12:=zq (show n3<=12 from by rw[hn3];exact HG.o.things.i1);have U64:=zq (show n5<=64 from by rw[hn5];exact HG.o.au.len);have y3:W3.cell? ⟨b0,3,none⟩=some (.slice a3 n3 c3):=FF.o.at_.cell 1 rfl 3 (by rw[EC.o,hn3,<-e3];rfl);clear e5 e3 e2 hn5 hn3 hn2
 go_wp2_with fail
 go_loopw [35] (fun i wr=>∃ k:Nat,k<=n3/\i=.int .i64 k/\∃ W',W'=wr/\Hid (∃ V' M,nN w R1 b9 [(b0, 31,C),(b0+1, 31,bI)] L k V' M W')) (fun i _=>n3 - (intOf i).toNat)
 case atStart=>exact⟨0,Nat.zero_le _,rfl,_,rfl,zq ⟨V2,L,FF.o,by rw[List.drop_zero],jK.refl HG.o,fun j _=>rfl⟩⟩
 clear y3 FF L2;obtain⟨k,hk,rfl,W',rfl,IV0⟩:=hrel;obtain⟨V',M,IV1⟩:=IV0.o;have IV:=zq IV1;clear IV0 IV1;by_cases hlt:k<n3;rotate_left
 ·have hlt':¬ (k:Int)<(n3:Int):=by omega
  have GO:=zq (show fK 0 L.af L=(M,0) from by rw[<-IV.o.go,lY (by rw[<-N3.o];omega)];rfl);have F0:=zq IV.o.fM;have MD:=zq IV.o.dV.day;clear hlt hk IV;have y5:W'.cell? ⟨b9,5,none⟩=some V'.au:=F0.o.at_.cell 0 rfl 5 rfl;have z5:=F0.o.at_.free 0 rfl 5;obtain⟨a6,c6,e6⟩:=F0.o.own.led.au.form;rw[e6] at y5
  go_upto_region 31 with (fail)
  have F1:=zq (F0.o.Rt 0 rfl);obtain⟨W1,hW1⟩:=Zn (W'.setCell ⟨b9,5,none⟩ (.slice none 0 0));rw[<-hW1] at F1;rw[<-hW1];clear hW1 y5 z5 e6 F0;have x5:W1.cell? ⟨b0,5,none⟩=some (.slice a5 n5 c5):=F1.o.at_.cell 1 rfl 5 (by rw[EC.o,N5.o,<-E5.o];rfl);obtain⟨f,hf⟩:∃ f:Pos->Bool,f=fun p=>mJ L.day (L.ins p.instr):=⟨_,rfl⟩
  have HF:=zq (show ∀ p:Pos,f p=decide ((L.ins p.instr).aJ≠d\/d=0) from fun p=>by rw[hf,ED.o];rfl);have ES2:=zq (show jT L=⟨{ M with day:=L.day+1,au:=L.au.filter f,orders:=[],aN:=[],aG:=List.replicate n3 0 },L.day+1,0⟩ from by rw[ES.o,GO.o,if_pos rfl,hf,N3.o]);clear hf
  go_wp2_with fail
  go_loopw [133] (fun i wr=>∃ j:Nat,j<=n5/\i=.int .i64 j/\∃ W',W'=wr/\Hid (∃ V',dA w R1 ((b9, 31,V'.cells M)::[(b0, 31,C),(b0+1, 31,bI)]) V' { M with au:=(L.au.take j).filter f } W')) (fun i _=>n5 - (intOf i).toNat)
  case atStart=>exact⟨0,Nat.zero_le _,rfl,_,rfl,zq ⟨_,F1.o⟩⟩
  clear x5 F1;obtain⟨j,hj,rfl,W',rfl,IV0⟩:=hrel;obtain⟨V1,IV1⟩:=IV0.o;have IV:=zq IV1;clear IV0 IV1;by_cases hlt:j<n5;rotate_left
  ·have hlt2:¬ (j:Int)<(n5:Int):=by omega
   have FA:=zq (show dA w R1 ((b9, 31,V1.cells M)::[(b0, 31,C),(b0+1, 31,bI)]) V1 { M with au:=L.au.filter f } W' from by
    have h:=IV.o;rw[List.take_of_length_le (by rw[<-N5.o];omega)] at h;exact h)
   clear hlt hj IV;obtain⟨a6,c6,e6⟩:=FA.o.own.led.orders.form;obtain⟨a8,c8,e8⟩:=FA.o.own.led.aN.form;obtain⟨a7,c7,e7⟩:=FA.o.own.led.aG.form;have E7:=zq e7;have y6:W'.cell? ⟨b9,6,none⟩=some V1.orders:=FA.o.at_.cell 0 rfl 6 rfl;rw[e6] at y6;have z6:=FA.o.at_.free 0 rfl 6
   go_upto_region 38 with (fail)
   have FB:=zq (FA.o.Au 0 rfl);obtain⟨W1,hW1⟩:=Zn (W'.setCell ⟨b9,6,none⟩ (.slice none 0 0));rw[<-hW1] at FB;rw[<-hW1];clear hW1 y6 z6 e6 FA;have y8:W1.cell? ⟨b9,8,none⟩=some V1.aN:=FB.o.at_.cell 0 rfl 8 rfl;rw[e8] at y8;have z8:=FB.o.at_.free 0 rfl 8
   go_upto_region 39 with (fail)
   have FC:=zq (FB.o.IU 0 rfl);obtain⟨W2,hW2⟩:=Zn (W1.setCell ⟨b9,8,none⟩ (.slice none 0 0));rw[<-hW2] at FC;rw[<-hW2];clear hW2 y8 z8 e8 FB;have hmk:∀ W:World,(Instr.makeSlice 28 (.int .i64 (n3:Nat)) (.int .i64 (n3:Nat))).run Tryz.prog W=.ok (.slice (some ⟨W.heap.size,0,none⟩) n3 n3) (W.alloc (.cells (madeCells #[.int .i64 0] n3) 3)):=zo n3 (by have:=U12.o;omega);have x3:W2.cell? ⟨b0,3,none⟩=some (.slice a3 n3 c3):=FC.o.at_.cell 1 rfl 3 (by rw[EC.o,N3.o,<-E3.o];rfl);have BB:=zq (show Below W2.heap.size W2 (W2.alloc (.cells (madeCells #[.int .i64 0] n3) 3)) from Zb);have FD:=zq (FC.o.Oc (Mod.of_below BB.o) (tK W2 R1 n3 FC.o.rb (by unfold maxLen;have:=U12.o;omega)) (fun k hk=>by simp[Value.ownBlock] at hk;omega));have FC2:=zq (FC.o.go BB.o);have y7:(W2.alloc (.cells (madeCells #[.int .i64 0] n3) 3)).cell? ⟨b9,7,none⟩=some V1.aG:=FC2.o.at_.cell 0 rfl 7 rfl;rw[E7.o] at y7;have z7:=FC2.o.at_.free 0 rfl 7;clear e7
   go_upto_region 40 with (fail)
   obtain⟨VD,hVD⟩:∃ U:aB,U={ ({ ({ V1 with orders:=.slice none 0 0 }:aB) with aN:=.slice none 0 0 }:aB) with aG:=.slice (some ⟨W2.heap.size,0,none⟩) n3 n3 }:=⟨_,rfl⟩;obtain⟨WD,hWD⟩:=Zn ((W2.alloc (.cells (madeCells #[.int .i64 0] n3) 3)).setCell ⟨b9,7,none⟩ (.slice (some ⟨W2.heap.size,0,none⟩) n3 n3));have FE:=zq (show dA w R1 ((b9, 31,VD.cells M)::[(b0, 31,C),(b0+1, 31,bI)]) VD { M with au:=L.au.filter f,orders:=[],aN:=[],aG:=List.replicate n3 0 } WD from by rw[hVD,hWD];exact FD.o);rw[<-hWD];clear hVD hWD FC FD FC2 y7 z7 x3 hmk;have x0:WD.cell? ⟨b0,0,none⟩=some (.int .i64 d):=FE.o.at_.cell 1 rfl 0 (by rw[EC.o,ED.o];rfl);have y0:WD.cell? ⟨b9,0,none⟩=some (.int .i64 d):=FE.o.at_.cell 0 rfl 0 (by rw[ED.o,<-MD.o];rfl);have z0:=FE.o.at_.free 0 rfl 0;have ovf:IntKind.i64.wrap (d+1)=d+1:=by rw[IntKind.wrap_i64];have:=D0.o;have:=ED.o;omega
   go_upto_region 41 with (fail)
   have FG:=zq (FE.o.cell 0 rfl 0 (.int .i64 (d+1)));obtain⟨W6,hW6⟩:=Zn (WD.setCell ⟨b9,0,none⟩ (.int .i64 (d+1)));rw[<-hW6] at FG;rw[<-hW6];clear hW6 x0 y0 z0 FE;obtain⟨ME,hME⟩:∃ l:aI,l={ M with day:=d+1,au:=L.au.filter f,orders:=[],aN:=[],aG:=List.replicate n3 0 }:=⟨_,rfl⟩;have F6:=zq (show dA w R1 ((b9, 31,VD.cells ME)::[(b0, 31,C),(b0+1, 31,bI)]) VD ME W6 from by
    rw[hME];have f:=FG.o;exact⟨f.at_,⟨f.own.aS,f.own.ah,f.own.af,f.own.same,f.own.ai,f.own.aT,f.own.au,f.own.orders,f.own.aG,f.own.aN,f.own.sep,f.own.names,f.own.nums⟩,f.sD,f.rb,f.lo⟩)
   have ES3:=zq (show jT L=⟨ME,d+1,0⟩ from by rw[ES2.o,hME,<-ED.o]);clear hME FG;have y0:W6.cell? ⟨b9,0,none⟩=some (.int .i64 (d+1)):=F6.o.at_.cell 0 rfl 0 (by have:ME.day=d+1:=(by have:=ES3.o;rw[ES2.o] at this;injection this with h _ _;rw[<-h,<-ED.o]);rw[<-this];rfl);have LE:=zq (iT F6.o.own.led);have EX:=zq (show jT L=(⟨ME,(d+1),0⟩:yx) from ES3.o);have EE:=zq (show jD L (jT L)=Aa ME (d+1) from by rw[Lh HG.o (by rw[EX.o]),EX.o]);have GE:=zq (show aI.Good ME from by
    have:=GOODL.o (by rw[EX.o]);rw[EX.o] at this;exact this)
   have EN:=zq (Og W6 VD ME F6.o.own.led GE.o (d+1));unfold aB.val at EN
   go_wp2_with (refine dm (F6.o.at_.get 0 rfl) LE.o rfl rfl rfl ?_)
   refine EN.o.mono ?_;obtain⟨a,ha⟩:=Zn (Aa ME (d+1));rw[<-ha] at EE ⊢;rintro e w7 ⟨U,rfl,own,hb⟩;have OW:=zq own;have BB:=zq hb;have X7:=zq (F6.o.at_.go hb);have LU:=zq (iT own.led);unfold aB.val;clear own hb ha EN;go_simp
   go_wp2_with (refine bH (X7.o.get 2 rfl) bU LU.o rfl rfl rfl rfl ?_)
   exact bodyPost_ret (dU rfl _ _ (setRow_heap _ _ _ _ _ _ (X7.o.get 2 rfl)) LU.o rfl) rfl (by first|exact IK F6.o.at_ BB.o OW.o (k:=2) rfl EE.o.symm rfl rfl rfl|simpa using IK F6.o.at_ BB.o OW.o (k:=2) rfl EE.o.symm rfl rfl rfl)
  have hlt2:(j:Int)<(n5:Int):=by omega
  have n64:n5<=64:=U64.o;have LT5:=zq hlt;obtain⟨p,hp⟩:∃ p,L.au[j]?=some p:=⟨_,Zg (by rw[<-N5.o];exact hlt)⟩;have HP:=zq hp;obtain⟨bp,op,cp,ep,hc⟩:=(HH.o.below IV.o.at_.low).au.place hp;have ea:a5=some ⟨bp,op,none⟩:=by have:=E5.o;rw[ep] at this;injection this with h _ _;exact h.symm
  obtain⟨p2,p3,p4,p5,p6,p7,p8⟩:=HG.o.au.all p (List.mem_of_getElem? hp);obtain⟨pn,hpn⟩:∃ x:Nat,p.instr=x:=⟨p.instr.toNat,by omega⟩;have HPN:=zq (And.intro hpn (show pn<L.af.length from by omega));have q0:W'.cell? ⟨bp,op+j*3,none⟩=some (.int .i64 p.ak):=by have:=hc 0 _ rfl;simpa using this
  have q1:W'.cell? ⟨bp,op+j*3+1,none⟩=some (.int .i64 (pn:Int)):=by rw[<-hpn];exact hc 1 _ rfl
  have q2:=hc 2 _ rfl;subst ea;have HFp:=zq (HF.o p);rw[hpn] at HFp;obtain⟨ex,hex⟩:=Zn ((L.ins (pn:Int)).aJ);have EX:=zq hex;rw[<-hex] at HFp;clear hp hc ep hlt hj p2 p3 p4 p5 p6 p7 p8 hpn hex
  go_upto_region 34 with (fail)
  obtain⟨W1,hW1⟩:=Zn (W'.alloc (.cells #[.int .i64 p.ak,.int .i64 (pn:Int),.int .i64 p.qty] 50));obtain⟨bq,hbq⟩:=Zn W'.heap.size;have F1:=zq (show dA w R1 ((b9, 31,V1.cells M)::(bq, 50,#[.int .i64 p.ak,.int .i64 (pn:Int),.int .i64 p.qty])::[(b0, 31,C),(b0+1, 31,bI)]) V1 { M with au:=(L.au.take j).filter f } W1 from by rw[hW1,hbq];exact IV.o.add1 _ _);rw[<-hW1,<-hbq];clear hW1 hbq q0 q1 q2 IV;have FD:=zq F1.o.drew;have hal:=(HH.o.below F1.o.at_.low).af;obtain⟨b3,o3,c3',e3,h3⟩:=hal.place (aI.gX HPN.o.2);have ea3:a3=some ⟨b3,o3,none⟩:=by have:=E3.o;rw[e3] at this;injection this with h _ _;exact h.symm
  subst ea3;have x0:W1.cell? ⟨b0,0,none⟩=some (.int .i64 d):=F1.o.at_.cell 2 rfl 0 (by rw[EC.o,ED.o];rfl);have x3:W1.cell? ⟨b0,3,none⟩=some (.slice (some ⟨b3,o3,none⟩) n3 c3):=F1.o.at_.cell 2 rfl 3 (by rw[EC.o,N3.o,<-E3.o];rfl);have q1:W1.cell? ⟨bq,1,none⟩=some (.int .i64 (pn:Int)):=F1.o.at_.cell 1 rfl 1 rfl;have q4:W1.cell? ⟨b3,o3+pn*7+4,none⟩=some (.int .i64 ex):=by rw[EX.o];exact h3 4 _ rfl
  have k0:(0:Int)<=(pn:Int):=by omega
  have k1:(pn:Int)<(n3:Int):=by have:=HPN.o.2;have:=N3.o;omega
  clear hal e3 h3;refine aF.wz [] [] (.step 0 (.step 1 (.step 2 (.step 3 (.step 4 (.step 5 (.step 6 (.step 7 (.step 8 (.step 9 (.step 10 (.step 11 (.step 12 (.step 13 (.step 14 (.step 15 (.step 16 (.step 17 (.step 18 (.step 19 .leaf)))))))))))))))))))) (by kernel_rfl) (by kernel_rfl) ?_;by_cases hst:ex=d/\d≠0
  ·have z1:(ex==(0:Int))=false:=by rw[beq_eq_false_iff_ne];omega
   have z2:(ex != d)=false:=by simp[hst.1]
   have NX:=zq (show dA w R1 ((b9, 31,V1.cells M)::[(b0, 31,C),(b0+1, 31,bI)]) V1 { M with au:=(L.au.take (j+1)).filter f } W1.drew from by
    rw[keep_next HP.o,if_neg (by rw[HFp.o];simp;omega),List.append_nil];exact FD.o.drop1)
   clear hst;refine aF.aC [0,1,2,3,4,5,6,7,8,9,10,11,12,13,14,15,16,17,18,19] (by kernel_rfl) ?_
   simp only[ay,nth]
   repeat (go_big_quiet_step (fail))
   refine wpQuiet_nil ?_;refine aF.aZ ?_
   go_wp2_with fail
   go_roundw
   case rel=>exact⟨j+1,by have:=LT5.o;omega,by go_num,_,rfl,zq ⟨V1,NX.o⟩⟩
   case measure=>have:=LT5.o;simp[intOf];omega
  have FP:=zq (show f p=true from by rw[HFp.o];simp;omega);obtain⟨WE,hWE⟩:=Zn W1.drew;rw[<-hWE] at FD;have LP:=zq (show ((L.au.take j).filter f).length+1<=1000 from by
   have h1:=List.length_filter_le f (L.au.take j);have h2:=List.length_take_le j L.au;have h3:=LT5.o;have h4:=U64.o;omega)
  obtain⟨ap,cp,ep⟩:=FD.o.own.led.au.form;obtain⟨np,hnp⟩:=Zn (({ M with au:=(L.au.take j).filter f }:aI).au.length);rw[<-hnp] at ep;obtain⟨v',w3,hrun,ho,hm,hbk⟩:=Bl WE R1 V1.au _ FD.o.own.au FD.o.rb p #[.int .i64 p.ak,.int .i64 (pn:Int),.int .i64 p.qty] (by rw[<-HPN.o.1];rfl) (by have:=LP.o;simp only;omega);obtain⟨a',c',hv',_⟩:=ho.form;have FN:=zq (FD.o.Ob hm ho hbk);have hnb:¬ V1.au.ownBlock=some b9:=FD.o.sD (b9, 31,V1.cells M) (by simp) V1.au (by simp[aB.rows]);have y5:WE.cell? ⟨b9,5,none⟩=some (.slice ap np cp):=by rw[<-ep];exact FD.o.at_.cell 0 rfl 5 rfl
  have y5':w3.cell? ⟨b9,5,none⟩=some (.slice ap np cp):=hm.cell y5 hnb;have z5':w3.frozen? ⟨b9,5,none⟩=false:=by
   have g:=hm.heap (FD.o.at_.get 0 rfl) hnb;unfold World.frozen?;simp[g]
  have p0:WE.cell? ⟨bq,0,none⟩=some (.int .i64 p.ak):=FD.o.at_.cell 1 rfl 0 rfl;have p1:WE.cell? ⟨bq,1,none⟩=some (.int .i64 (pn:Int)):=FD.o.at_.cell 1 rfl 1 rfl;have p2:WE.cell? ⟨bq,2,none⟩=some (.int .i64 p.qty):=FD.o.at_.cell 1 rfl 2 rfl;obtain⟨n',hn'⟩:∃ n',n'=(({ M with au:=(L.au.take j).filter f }:aI).au++[p]).length:=⟨_,rfl⟩;rw[<-hn'] at hv';subst hv';rw[ep] at hrun;have RUN:=zq hrun;have NX:=zq (show dA w R1 ((b9, 31,({ V1 with au:=.slice a' n' c' }:aB).cells M)::[(b0, 31,C),(b0+1, 31,bI)]) { V1 with au:=.slice a' n' c' } { M with au:=(L.au.take (j+1)).filter f } (w3.setCell ⟨b9,5,none⟩ (.slice a' n' c')) from by
   rw[keep_next HP.o,if_pos FP.o];exact FN.o.drop1)
  clear hrun ho hm hbk hn' hnp ep hnb FN;by_cases hz:ex=0
  ·have z1:(ex==(0:Int))=true:=by simp[hz]
   clear hst hz;refine aF.aC [0,1,2,3,4,5,6,7,8,9,10,11,12,13,14,15,16,17,18,19] (by kernel_rfl) ?_
   simp only[ay,nth]
   repeat (go_big_quiet_step (fail))
   refine wpQuiet_nil ?_;refine aF.aZ ?_;rw[<-hWE];clear hWE x0 x3 q1 q4
   go_wp2_with (at_builtin;refine wpList_append_run rfl (.tmp 158) (.tmp 160) 26 rfl rfl rfl RUN.o ?_)
   go_roundw
   case rel=>exact⟨j+1,by have:=LT5.o;omega,by go_num,_,rfl,zq ⟨_,NX.o⟩⟩
   case measure=>have:=LT5.o;simp[intOf];omega
  have z1:(ex==(0:Int))=false:=by simp[hz]
  have z2:(ex != d)=true:=by rw[bne_iff_ne];omega
  clear hst hz;refine aF.aC [0,1,2,3,4,5,6,7,8,9,10,11,12,13,14,15,16,17,18,19] (by kernel_rfl) ?_
  simp only[ay,nth]
  repeat (go_big_quiet_step (fail))
  refine wpQuiet_nil ?_;refine aF.aZ ?_;rw[<-hWE];clear hWE x0 x3 q1 q4
  go_wp2_with (at_builtin;refine wpList_append_run rfl (.tmp 158) (.tmp 160) 26 rfl rfl rfl RUN.o ?_)
  go_roundw
  case rel=>exact⟨j+1,by have:=LT5.o;omega,by go_num,_,rfl,zq ⟨_,NX.o⟩⟩
  case measure=>have:=LT5.o;simp[intOf];omega
 have hlt':(k:Int)<(n3:Int):=by omega
 have n12:n3<=12:=U12.o;have LT:=zq hlt;have HN:=zq (show k<L.af.length from by rw[<-N3.o];exact hlt);have CG:=zq (fun W (hb:Below w.heap.size w W)=>DY W V L (HH.o.below hb) k HN.o);unfold aB.val at CG;rw[<-EC.o] at CG;obtain⟨B,hB⟩:=Zn (decide ((L.ins k).aJ=0\/L.day<=(L.ins k).aJ));rw[<-hB] at CG;have EB:=zq hB;clear hlt hk hB
 go_wp2_with (refine dm (IV.o.fM.at_.get 1 rfl) LC.o rfl rfl rfl ?_)
 refine (CG.o W' IV.o.fM.at_.low).mono ?_;rintro e w4 ⟨rfl,hb⟩;have I4:=zq (IV.o.Bc hb);clear hb IV CG
 cases hB:B with
 | false =>
   have NX:=zq (I4.o.skip (aI.gX HN.o) (by have:=EB.o;rw[hB] at this;simpa using this.symm));subst hB
   go_wp2_with fail
   go_roundw
   case rel=>exact⟨k+1,by have:=LT.o;omega,by go_num,_,rfl,zq ⟨V',M,NX.o⟩⟩
   case measure=>have:=LT.o;simp[intOf];omega
 | true =>
   have HCD:=zq (show (L.ins k).aJ=0\/L.day<=(L.ins k).aJ from by have:=EB.o;rw[hB] at this;simpa using this.symm);subst hB;obtain⟨m,e1,hm,hu⟩:=HG.o.zN HN.o;have hi:=HG.o.rq HN.o;have hud:=HG.o.yt (n:=(L.ins k).under) hi.1 hi.2.1;obtain⟨nk,n0⟩:=Ar HG.o HN.o;obtain⟨now,hnow⟩:=Zn ((qB (L.ins k) (L.und (L.ins k).under) L.day).1);have NW:=zq (fun W=>Oq (L.ins k) (L.und (L.ins k).under) _ _ hi hud L.day HG.o.d0 HG.o.d1 W);have eu:(kF (L.ins k) (L.und (L.ins k).under).price (L.und (L.ins k).under).di L.day).1=now:=by
    rw[hnow];unfold qB;obtain⟨_,_,_,p0,p1,v0,v1⟩:=hud;rw[if_pos ⟨⟨by omega,p1⟩,v0,v1⟩]
   rw[eu] at NW;rw[<-hnow] at n0;have MP:=zq I4.o.dV.au;have SA:=zq (show (now<=100000000000000->dI M k=if (dw (gU M k) (fun _=>M.cZ k) 0 L.au M).2=0 then ({ (dw (gU M k) (fun _=>M.cZ k) 0 L.au M).1 with af:=M.af.set k { L.ins k with mark:=now } },0) else (aI.none,(dw (gU M k) (fun _=>M.cZ k) 0 L.au M).2))/\(¬ now<=100000000000000->dI M k=(aI.none,4)) from by
    have eq:qB (M.ins k) (M.und (M.ins k).under) M.day=qB (L.ins k) (L.und (L.ins k).under) L.day:=by
     rw[I4.o.ins_eq,I4.o.dV.day];unfold aI.und;rw[I4.o.dV.ah]
    unfold dI;rw[eq,if_pos nk,<-hnow,MP.o,I4.o.ins_eq];exact⟨fun h=>by rw[if_pos h],fun h=>by rw[if_neg h]⟩)
   have SF:=zq (show ∀ p:Pos,gU M k p=if p.instr=k then some (dP (L.ins k) p.qty (now - (L.ins k).mark)) else none from fun p=>by
    have eq:qB (M.ins k) (M.und (M.ins k).under) M.day=qB (L.ins k) (L.und (L.ins k).under) L.day:=by
     rw[I4.o.ins_eq,I4.o.dV.day];unfold aI.und;rw[I4.o.dV.ah]
    unfold gU;rw[eq,<-hnow,I4.o.ins_eq])
   have NB:=zq (And.intro n0 (show 0<=(L.ins k).mark/\(L.ins k).mark<=100000000000000 from ⟨hi.2.2.2.2.1,hi.2.2.2.2.2.1⟩));obtain⟨b3,o3,c3',e3,h3⟩:=(HH.o.below I4.o.fM.at_.low).af.place (aI.gX HN.o);obtain⟨b2,o2,c2',e2,h2⟩:=(HH.o.below I4.o.fM.at_.low).ah.place hu;have ea3:a3=some ⟨b3,o3,none⟩:=by have:=E3.o;rw[e3] at this;injection this with h _ _;exact h.symm
   have ea2:a2=some ⟨b2,o2,none⟩:=by have:=E2.o;rw[e2] at this;injection this with h _ _;exact h.symm
   subst ea3;subst ea2;have y3:w4.cell? ⟨b0,3,none⟩=some (.slice (some ⟨b3,o3,none⟩) n3 c3):=I4.o.fM.at_.cell 1 rfl 3 (by rw[EC.o,N3.o,<-E3.o];rfl);have q0:w4.cell? ⟨b3,o3+k*7,none⟩=some (.int .i64 (L.ins k).kind):=by have:=h3 0 _ rfl;simpa using this
   have q1:w4.cell? ⟨b3,o3+k*7+1,none⟩=some (.int .i64 (m:Int)):=by rw[<-e1];exact h3 1 _ rfl
   have q2:=h3 2 _ rfl;have q3:=h3 3 _ rfl;have q4:=h3 4 _ rfl;have q5:=h3 5 _ rfl;have q6:=h3 6 _ rfl;have r0:w4.cell? ⟨b2,o2+m*4,none⟩=some (.string (L.und (L.ins k).under).name):=by have:=h2 0 _ rfl;simpa using this
   have r1:=h2 1 _ rfl;have r2:=h2 2 _ rfl;have r3:=h2 3 _ rfl;have k0:(0:Int)<=(k:Int):=by omega
   have k1:(k:Int)<(n3:Int):=by omega
   have m0:(0:Int)<=(m:Int):=by omega
   have m1:(m:Int)<(n2:Int):=by have:=N2.o;omega
   rw[e1] at NW;obtain⟨U,hU⟩:=Zn (L.und (m:Int));obtain⟨I,hI⟩:=Zn (L.ins k);have EI:=zq hI;rw[e1,<-hU] at r0 r1 r2 r3;rw[<-hI] at q0 q2 q3 q4 q5 q6 NB SF SA;rw[<-hI,<-hU] at NW;have EU:=zq (show I.under=(m:Int) from by rw[hI,e1]);clear nk n0 hu hi hud hnow eu h3 h2 e1 e2 e3 hm hU hI
   go_upto_region 11 with (fail)
   obtain⟨W5,hW5⟩:=Zn (w4.alloc (.cells #[.int .i64 I.kind,.int .i64 (m:Int),.int .i64 I.mult,.int .i64 I.strike,.int .i64 I.aJ,.bool I.call,.int .i64 I.mark] 66));obtain⟨bi,hbi⟩:=Zn w4.heap.size;have I5:=zq (show nN w R1 b9 ((bi, 66,#[.int .i64 I.kind,.int .i64 (m:Int),.int .i64 I.mult,.int .i64 I.strike,.int .i64 I.aJ,.bool I.call,.int .i64 I.mark])::[(b0, 31,C),(b0+1, 31,bI)]) L k V' M W5 from by rw[hW5,hbi];exact I4.o.more _ _);have hal:∀ {a u},w4.cell? a=some u->W5.cell? a=some u:=fun h=>by rw[hW5];exact ((Mod.refl (fun _=>False) w4).alloc _).cell h (fun h=>h)
   replace r0:=hal r0
   replace r1:=hal r1
   replace r2:=hal r2
   replace r3:=hal r3
   have y0:W5.cell? ⟨b0,0,none⟩=some (.int .i64 d):=I5.o.fM.at_.cell 2 rfl 0 (by rw[EC.o,ED.o];rfl);have y2:W5.cell? ⟨b0,2,none⟩=some (.slice (some ⟨b2,o2,none⟩) n2 c2):=I5.o.fM.at_.cell 2 rfl 2 (by rw[EC.o,N2.o,<-E2.o];rfl);have i0:W5.cell? ⟨bi,0,none⟩=some (.int .i64 I.kind):=I5.o.fM.at_.cell 1 rfl 0 rfl;have i1:W5.cell? ⟨bi,1,none⟩=some (.int .i64 (m:Int)):=I5.o.fM.at_.cell 1 rfl 1 rfl;have i2:W5.cell? ⟨bi,2,none⟩=some (.int .i64 I.mult):=I5.o.fM.at_.cell 1 rfl 2 rfl;have i3:W5.cell? ⟨bi,3,none⟩=some (.int .i64 I.strike):=I5.o.fM.at_.cell 1 rfl 3 rfl;have i4:W5.cell? ⟨bi,4,none⟩=some (.int .i64 I.aJ):=I5.o.fM.at_.cell 1 rfl 4 rfl;have i5:W5.cell? ⟨bi,5,none⟩=some (.bool I.call):=I5.o.fM.at_.cell 1 rfl 5 rfl;have i6:W5.cell? ⟨bi,6,none⟩=some (.int .i64 I.mark):=I5.o.fM.at_.cell 1 rfl 6 rfl;rw[<-hW5,<-hbi];rw[<-ED.o] at NW;clear hW5 hbi hal y3 q0 q1 q2 q3 q4 q5 q6 I4;refine aF.wz [9] [] (.step 0 (.step 1 (.step 2 (.step 3 (.step 4 (.step 5 (.step 6 (.step 7 (.step 8 (.step 9 (.step 10 (.step 11 (.step 12 (.step 13 (.step 14 .leaf))))))))))))))) (by kernel_rfl) (by kernel_rfl) ?_;refine aF.aC [0,1,2,3,4,5,6,7,8] (by kernel_rfl) ?_
   simp only[ay,nth]
   repeat (go_big_quiet_step (fail))
   refine wpQuiet_nil ?_;refine aF.aK (by kernel_rfl) rfl (fun K hK=>?_)
   simp only[ay,nth]
   refine aA ?_;go_simp;refine (NW.o _).mono ?_;rintro e w6 ⟨rfl,hb⟩;have I6:=zq (show nN w R1 b9 ((bi, 66,#[.int .i64 I.kind,.int .i64 (m:Int),.int .i64 I.mult,.int .i64 I.strike,.int .i64 I.aJ,.bool I.call,.int .i64 I.mark])::[(b0, 31,C),(b0+1, 31,bI)]) L k V' M w6 from I5.o.Bc (((Mod.refl (fun _=>False) W5).drew).aQ.trans (by simpa using hb)));clear hb y0 y2 r0 r1 r2 r3 i0 i1 i2 i3 i4 i5 i6 I5 NW;go_simp;refine hK _ _ (fun h=>by cases h) ?_;clear hK;refine aF.aC [10,11,12,13,14] (by kernel_rfl) ?_
   simp only[ay,nth]
   repeat (go_big_quiet_step (fail))
   refine wpQuiet_nil ?_;refine aF.aZ ?_;by_cases hnw:now<=100000000000000;rotate_left
   ·have d1:decide (100000000000000<now)=true:=decide_eq_true (by omega);have HS:=zq (SA.o.2 (by omega));have WHY:=zq (show jD L (jT L)=(L0,0,4) from by
     have g:fK 0 L.af L=(aI.none,4):=by
      rw[<-I6.o.go,drop_at (aI.gX HN.o),qO (by rw[I6.o.dV.day];exact HCD.o) (by rw[HS.o];decide),HS.o]
     have e:jT L=.no 4:=by rw[ES.o,g,if_neg (by decide)]
     rw[e,pY HG.o (by decide)];rfl)
    have XX:=zq (show At w w6 [(b0, 31,C),(b0+1, 31,bI)] from I6.o.fM.at_.sub ((List.sublist_cons_self _ _).trans (List.sublist_cons_self _ _)));clear hnw I6
    go_wp2_with fail
    refine (oD 4 _).mono ?_;rintro e w9 ⟨rfl,hb⟩;have XN:=zq (XX.o.go hb);clear hb
    go_wp2_with (refine bH (cs:=bI) (XN.o.get 1 rfl) bU bU rfl rfl rfl rfl ?_)
    refine bodyPost_ret (dU (cs:=bI) rfl _ _ (setRow_heap _ _ _ _ _ _ (XN.o.get 1 rfl)) bU rfl) rfl (by first|exact nG XN.o (k:=1) rfl (WHY.o)|simpa using nG XN.o (k:=1) rfl (WHY.o))
   have d1:decide (100000000000000<now)=false:=Zf (by omega);have HS:=zq (SA.o.1 (by omega));have HNW:=zq hnw;clear hnw SA;obtain⟨f,hf⟩:=Zn (gU M k);obtain⟨c,hc⟩:∃ c:Pos->Int,c=fun _=>M.cZ k:=⟨_,rfl⟩
   have EF:=zq (show ∀ p,c p=L.cZ k from fun p=>by rw[hc];exact I6.o.Qq);rw[<-hf,<-hc] at HS;rw[<-hf] at SF;clear hf hc;have BAD:=zq (show ∀ er,er≠0->dw f c 0 L.au M=(aI.none,er)->jD L (jT L)=(L0,0,er) from fun er he hp=>by
    have hs:dI M k=(aI.none,er):=by rw[HS.o,hp,if_neg he]
    have g:fK 0 L.af L=(aI.none,er):=by
     rw[<-I6.o.go,drop_at (aI.gX HN.o),qO (by rw[I6.o.dV.day];exact HCD.o) (by rw[hs];exact he),hs]
    have e:jT L=.no er:=by rw[ES.o,g,if_neg he]
    rw[e,pY HG.o he];rfl)
   have y5:w6.cell? ⟨b0,5,none⟩=some (.slice a5 n5 c5):=I6.o.fM.at_.cell 2 rfl 5 (by rw[EC.o,N5.o,<-E5.o];rfl);have MG:=zq I6.o.dV.good;have ML:=zq I6.o.dV.len;have MC:=zq I6.o.dV.aS
   go_wp2_with fail
   go_loopw [75] (fun i wr=>∃ j:Nat,j<=n5/\i=.int .i64 j/\∃ W',W'=wr/\Hid (∃ V' N,pW w R1 b9 ((bi, 66,#[.int .i64 I.kind,.int .i64 (m:Int),.int .i64 I.mult,.int .i64 I.strike,.int .i64 I.aJ,.bool I.call,.int .i64 I.mark])::[(b0, 31,C),(b0+1, 31,bI)]) M L.au f c 0 j V' N W')) (fun i _=>n5 - (intOf i).toNat)
   case atStart=>exact⟨0,Nat.zero_le _,rfl,_,rfl,zq ⟨V',M,I6.o.fM,by rw[List.drop_zero],dX.rfl⟩⟩
   clear y5 d1;obtain⟨j,hj,rfl,W',rfl,IV0⟩:=hrel;obtain⟨VN,N,IV1⟩:=IV0.o;have IV:=zq IV1;clear IV0 IV1;by_cases hlt:j<n5;rotate_left
   ·have hlt2:¬ (j:Int)<(n5:Int):=by omega
    have GO:=zq (show dw f c 0 L.au M=(N,0) from by rw[<-IV.o.go,lY (by rw[<-N5.o];omega)];rfl);have SN:=zq (show dI M k=({ N with af:=M.af.set k { I with mark:=now } },0) from by rw[HS.o,GO.o,if_pos rfl]);have NI:=zq IV.o.bY.af;have F7:=zq IV.o.fM;clear hlt hj IV;have i6:W'.cell? ⟨bi,6,none⟩=some (.int .i64 I.mark):=F7.o.at_.cell 1 rfl 6 rfl;have z6:=F7.o.at_.free 1 rfl 6
    go_upto_region 28 with (fail)
    have F8:=zq (F7.o.cell 1 rfl 6 (.int .i64 now));obtain⟨W8,hW8⟩:=Zn (W'.setCell ⟨bi,6,none⟩ (.int .i64 now));rw[<-hW8] at F8;rw[<-hW8];clear hW8 i6 z6 F7;have i0:W8.cell? ⟨bi,0,none⟩=some (.int .i64 I.kind):=F8.o.at_.cell 1 rfl 0 rfl;have i1:W8.cell? ⟨bi,1,none⟩=some (.int .i64 (m:Int)):=F8.o.at_.cell 1 rfl 1 rfl;have i2:W8.cell? ⟨bi,2,none⟩=some (.int .i64 I.mult):=F8.o.at_.cell 1 rfl 2 rfl;have i3:W8.cell? ⟨bi,3,none⟩=some (.int .i64 I.strike):=F8.o.at_.cell 1 rfl 3 rfl;have i4:W8.cell? ⟨bi,4,none⟩=some (.int .i64 I.aJ):=F8.o.at_.cell 1 rfl 4 rfl;have i5:W8.cell? ⟨bi,5,none⟩=some (.bool I.call):=F8.o.at_.cell 1 rfl 5 rfl;have i6:W8.cell? ⟨bi,6,none⟩=some (.int .i64 now):=F8.o.at_.cell 1 rfl 6 rfl;have NK:=zq (show N.af[k]?=some I from by rw[NI.o,I6.o.row k (Nat.le_refl _),EI.o];exact aI.gX HN.o);have NL:=zq (show N.af.length=n3 from by rw[NI.o,I6.o.dV.lens,N3.o]);obtain⟨g,cg,hv,_,_,hcell,hz⟩:=F8.o.own.af.slot dS (by decide) NK.o;have HV:=zq hv;have y3:W8.cell? ⟨b9,3,none⟩=some (.slice (some ⟨g,0,none⟩) n3 cg):=F8.o.at_.cell 0 rfl 3 (by rw[<-NL.o,<-hv];rfl);have HC:=zq hcell;have g0:W8.cell? ⟨g,k*7,none⟩=some (.int .i64 I.kind):=by have:=hcell 0 _ rfl;simpa using this
    have g1:W8.cell? ⟨g,k*7+1,none⟩=some (.int .i64 (m:Int)):=by rw[<-EU.o];exact hcell 1 _ rfl
    have g2:=hcell 2 _ rfl;have g3:=hcell 3 _ rfl;have g4:=hcell 4 _ rfl;have g5:=hcell 5 _ rfl;have g6:=hcell 6 _ rfl;have f0:=hz (k*7);have f1:=hz (k*7+1);have f2:=hz (k*7+2);have f3:=hz (k*7+3);have f4:=hz (k*7+4);have f5:=hz (k*7+5);have f6:=hz (k*7+6);have F9:=zq (F8.o.drop1.Pn HV.o NK.o HC.o now);rw[EU.o] at F9;obtain⟨W9,hW9⟩:=Zn ((((((((W8.setCell ⟨g,k*7,none⟩ (.int .i64 I.kind)).setCell ⟨g,k*7+1,none⟩ (.int .i64 (m:Int))).setCell ⟨g,k*7+2,none⟩ (.int .i64 I.mult)).setCell ⟨g,k*7+3,none⟩ (.int .i64 I.strike)).setCell ⟨g,k*7+4,none⟩ (.int .i64 I.aJ)).setCell ⟨g,k*7+5,none⟩ (.bool I.call)).setCell ⟨g,k*7+6,none⟩ (.int .i64 now)));rw[<-hW9] at F9;have k0':(0:Int)<=(k:Int):=by omega
    have k1':(k:Int)<(n3:Int):=by have:=LT.o;omega
    have NX:=zq (show nN w R1 b9 [(b0, 31,C),(b0+1, 31,bI)] L (k+1) VN { N with af:=M.af.set k { I with mark:=now } } W9 from I6.o.next (aI.gX HN.o) HCD.o SN.o rfl (by have f:=F9.o;rw[NI.o,<-EU.o] at f;exact f));clear hv hcell hz
    go_upto_region 29 with (fail)
    rw[<-hW9];clear hW9 y3 i0 i1 i2 i3 i4 i5 i6 g0 g1 g2 g3 g4 g5 g6 f0 f1 f2 f3 f4 f5 f6
    go_wp2_with fail
    go_roundw
    case rel=>exact⟨k+1,by have:=LT.o;omega,by go_num,_,rfl,zq ⟨_,_,NX.o⟩⟩
    case measure=>have:=LT.o;simp[intOf];omega
   have hlt2:(j:Int)<(n5:Int):=by omega
   have n64:n5<=64:=U64.o;have LT5:=zq hlt;obtain⟨p,hp⟩:∃ p,L.au[j]?=some p:=⟨_,Zg (by rw[<-N5.o];exact hlt)⟩;have HP:=zq hp;obtain⟨bp,op,cp,ep,hc⟩:=(HH.o.below IV.o.fM.at_.low).au.place hp;have ea:a5=some ⟨bp,op,none⟩:=by have:=E5.o;rw[ep] at this;injection this with h _ _;exact h.symm
   obtain⟨p2,p3,p4,p5,p6,p7,p8⟩:=HG.o.au.all p (List.mem_of_getElem? hp);obtain⟨pa,hpa⟩:∃ x:Nat,p.ak=x:=⟨p.ak.toNat,by omega⟩;obtain⟨pn,hpn⟩:∃ x:Nat,p.instr=x:=⟨p.instr.toNat,by omega⟩;have HPA:=zq (And.intro hpa (show 2<=pa/\pa<L.ai.length from ⟨by omega,by omega⟩));have HPN:=zq hpn;have q0:W'.cell? ⟨bp,op+j*3,none⟩=some (.int .i64 (pa:Int)):=by have:=hc 0 _ rfl;rw[<-hpa];simpa using this
   have q1:W'.cell? ⟨bp,op+j*3+1,none⟩=some (.int .i64 (pn:Int)):=by rw[<-hpn];exact hc 1 _ rfl
   have q2:=hc 2 _ rfl;subst ea;have SFp:=zq (SF.o p);clear hp hc ep hlt hj p2 p3 p4 p5 p6 p7 p8 hpa hpn;obtain⟨pq,hpq⟩:=Zn p.qty;have PQ:=zq hpq;rw[<-hpq] at q2;rw[HPN.o,<-hpq] at SFp;clear hpq;have IP:=zq (IV.o.more 50 #[.int .i64 (pa:Int),.int .i64 (pn:Int),.int .i64 pq])
   go_upto_region 19 with (fail)
   obtain⟨W7,hW7⟩:=Zn (W'.alloc (.cells #[.int .i64 (pa:Int),.int .i64 (pn:Int),.int .i64 pq] 50));obtain⟨bq,hbq⟩:=Zn W'.heap.size;rw[<-hW7,<-hbq] at IP;rw[<-hW7,<-hbq];clear hW7 hbq q0 q1 q2 IV;have q1:W7.cell? ⟨bq,1,none⟩=some (.int .i64 (pn:Int)):=IP.o.fM.at_.cell 1 rfl 1 rfl;by_cases hin:pn=k;rotate_left
   ·have SP:=zq (show f p=none from by rw[SFp.o,if_neg (by omega)]);have NX:=zq ((IP.o.skip HP.o SP.o).less);have qq:((pn:Int) != (k:Int))=true:=by rw[bne_iff_ne];omega
    clear hin
    go_wp2_with fail
    go_roundw
    case rel=>exact⟨j+1,by have:=LT5.o;omega,by go_num,_,rfl,zq ⟨VN,N,NX.o⟩⟩
    case measure=>have:=LT5.o;simp[intOf];omega
   subst hin;have SP:=zq (show f p=some (dP I pq (now - I.mark)) from by rw[SFp.o,if_pos rfl]);obtain⟨y,er,hy⟩:∃ y er,dP I pq (now - I.mark)=(y,er):=⟨_,_,rfl⟩;rw[hy] at SP;have YI:=zq (show er=0->I64 y from fun h=>by subst h;exact zT hy);have CW:=zq (fun W (hb:Below w.heap.size w W)=>AZ W V L (HH.o.below hb) pn HN.o pq (now - I.mark));rw[<-EI.o,hy] at CW;unfold aB.val at CW;rw[<-EC.o] at CW;obtain⟨cu,hcu⟩:∃ cu:Nat,L.cZ pn=cu/\cu<L.aS.length:=HG.o.mY.kS HN.o;have HCU:=zq hcu;have q2:W7.cell? ⟨bq,2,none⟩=some (.int .i64 pq):=IP.o.fM.at_.cell 1 rfl 2 rfl;have i6:W7.cell? ⟨bi,6,none⟩=some (.int .i64 I.mark):=IP.o.fM.at_.cell 2 rfl 6 rfl;have diff:IntKind.i64.wrap (now - I.mark)=now - I.mark:=by rw[IntKind.wrap_i64];have:=NB.o;have:=HNW.o;omega
   clear SFp hy hcu
   go_wp2_with (refine dm (IP.o.fM.at_.get 3 rfl) LC.o rfl rfl rfl ?_)
   refine (CW.o W7 IP.o.fM.at_.low).mono ?_;rintro e w6b ⟨rfl,hb⟩;have I7:=zq (IP.o.Bc hb);clear hb q1 q2 i6 CW IP;by_cases hz:er=0;rotate_left
   ·have hz':(er != 0)=true:=by rw[bne_iff_ne];exact hz
    have WHY:=zq (BAD.o er hz (by rw[<-I7.o.go,drop_at HP.o,qV SP.o hz]));have XX:=zq (show At w w6b [(b0, 31,C),(b0+1, 31,bI)] from I7.o.fM.at_.sub (((List.sublist_cons_self _ _).trans (List.sublist_cons_self _ _)).trans (List.sublist_cons_self _ _)));clear hz
    go_wp2_with fail
    refine (oD er _).mono ?_;rintro e w9 ⟨rfl,hb⟩;have XN:=zq (XX.o.go hb);clear hb
    go_wp2_with (refine bH (cs:=bI) (XN.o.get 1 rfl) bU bU rfl rfl rfl rfl ?_)
    refine bodyPost_ret (dU (cs:=bI) rfl _ _ (setRow_heap _ _ _ _ _ _ (XN.o.get 1 rfl)) bU rfl) rfl (by first|exact nG XN.o (k:=1) rfl (WHY.o)|simpa using nG XN.o (k:=1) rfl (WHY.o))
   have YJ:=zq (YI.o hz);subst hz;have MO:=zq (I7.o.bY.mY MG.o.mY);have CCU:=zq (fun W (F:dA w R1 ((b9, 31,VN.cells N)::(bq, 50,#[.int .i64 (pa:Int),.int .i64 (pn:Int),.int .i64 pq])::(bi, 66,#[.int .i64 I.kind,.int .i64 (m:Int),.int .i64 I.mult,.int .i64 I.strike,.int .i64 I.aJ,.bool I.call,.int .i64 I.mark])::[(b0, 31,C),(b0+1, 31,bI)]) VN N W)=>GH W V L (HH.o.below F.at_.low) HG.o.mY pn HN.o);rw[HCU.o.1] at CCU;unfold aB.val at CCU;rw[<-EC.o] at CCU;have CPA:=zq (fun W (F:dA w R1 ((b9, 31,VN.cells N)::(bq, 50,#[.int .i64 (pa:Int),.int .i64 (pn:Int),.int .i64 pq])::(bi, 66,#[.int .i64 I.kind,.int .i64 (m:Int),.int .i64 I.mult,.int .i64 I.strike,.int .i64 I.aJ,.bool I.call,.int .i64 I.mark])::[(b0, 31,C),(b0+1, 31,bI)]) VN N W)=>Ot W VN N F.own.led MO.o cu 0 pa (by rw[I7.o.bY.aS,MC.o];exact HCU.o.2) (by rw[I7.o.bY.len,ML.o];have:=AC.o;omega) (by rw[I7.o.bY.len,ML.o];exact HPA.o.2.2) y YJ.o)
   simp only[show ((0:Nat):Int)=0 from rfl] at CPA
   unfold aB.val at CPA;have EP:=zq (show fJ N (cu:Int) y 0 (pa:Int)=fJ N (c p) (y,(0:Int)).1 0 p.ak from by rw[EF.o,HCU.o.1,HPA.o.1]);obtain⟨pm,pe,hpp⟩:∃ m e,fJ N (cu:Int) y 0 (pa:Int)=(m,e):=⟨_,_,rfl⟩;rw[hpp] at CPA EP;have HPP:=zq hpp;clear hpp YI
   go_upto_region 23 with (fail)
   have FD:=zq I7.o.fM.drew;obtain⟨WD,hWD⟩:=Zn w6b.drew;rw[<-hWD] at FD;have LVM:=zq (iT FD.o.own.led);have CL:=zq (show ∀ W2,dA w R1 ((b9, 31,VN.cells N)::(bq, 50,#[.int .i64 (pa:Int),.int .i64 (pn:Int),.int .i64 pq])::(bi, 66,#[.int .i64 I.kind,.int .i64 (m:Int),.int .i64 I.mult,.int .i64 I.strike,.int .i64 I.aJ,.bool I.call,.int .i64 I.mark])::[(b0, 31,C),(b0+1, 31,bI)]) VN N W2->(fun W2:World=>W2.heap[b9]?=some (.cells (VN.cells N) 31 (0,0))/\W2.cell? ⟨bq,0,none⟩=some (.int .i64 (pa:Int))) W2 from fun W2 F=>⟨F.at_.get 0 rfl,F.at_.cell 1 rfl 0 rfl⟩);have j0:∀ z:bZ (fun W2:World=>W2.heap[b9]?=some (.cells (VN.cells N) 31 (0,0))/\W2.cell? ⟨bq,0,none⟩=some (.int .i64 (pa:Int))),z.w.cell? ⟨bq,0,none⟩=some (.int .i64 (pa:Int)):=fun z=>z.ok.2
   haveI ne:Nonempty (bZ (fun W2:World=>W2.heap[b9]?=some (.cells (VN.cells N) 31 (0,0))/\W2.cell? ⟨bq,0,none⟩=some (.int .i64 (pa:Int)))):=⟨⟨WD,CL.o _ FD.o⟩⟩
   refine kR.aW (C:=fun k w'=>k=10\/∃ z:bZ (fun W2:World=>W2.heap[b9]?=some (.cells (VN.cells N) 31 (0,0))/\W2.cell? ⟨bq,0,none⟩=some (.int .i64 (pa:Int))),w'=z.w) [3,7,11] [0,4,5,6,10] (.step 0 (.step 1 (.step 2 (.step 4 (.step 5 (.step 6 (.step 3 (.step 7 (.step 8 (.step 9 (.step 10 (.step 11 (.step 12 .leaf))))))))))))) (fun _ _ _=>False) (by kernel_rfl) (fun _ _ _ h=>h.elim) (by kernel_rfl) (fun _=>Or.inr ⟨⟨w6b.drew,by rw[<-hWD];exact CL.o _ FD.o⟩,rfl⟩) ?_;rw[<-hWD];clear hWD;refine kR.bF (fun w'=>∃ z:bZ (fun W2:World=>W2.heap[b9]?=some (.cells (VN.cells N) 31 (0,0))/\W2.cell? ⟨bq,0,none⟩=some (.int .i64 (pa:Int))),w'=z.w) [0] (by kernel_rfl) (fun i hi w h=>h.resolve_left (by simp at hi;omega)) ?_
   simp only[ay,nth]
   refine uP (cs:=VN.cells N) (fun W ⟨z,hz⟩=>by rw[hz];exact z.ok.1) LVM.o rfl rfl rfl ?_;refine wpQuiet_nil ?_;go_simp;refine kR.aC [1,2] (by kernel_rfl) ?_
   simp only[ay,nth]
   refine uP (cs:=C) (fun W hW=>by rw[hW];exact FD.o.at_.get 3 rfl) LC.o rfl rfl rfl ?_;go_simp
   repeat (go_big_quiet_step (fail))
   refine wpQuiet_nil ?_;refine kR.bF (fun w'=>∃ z:bZ (fun W2:World=>W2.heap[b9]?=some (.cells (VN.cells N) 31 (0,0))/\W2.cell? ⟨bq,0,none⟩=some (.int .i64 (pa:Int))),w'=z.w) [4,5,6] (by kernel_rfl) (fun i hi w h=>h.resolve_left (by simp at hi;omega)) ?_
   simp only[ay,nth]
   repeat (go_big_quiet_step (fail))
   refine wpQuiet_nil ?_;clear j0;refine kR.aK (by kernel_rfl) rfl (fun K hK=>?_)
   simp only[ay,nth]
   refine aA ?_;go_simp;refine (CCU.o _ FD.o).mono ?_;rintro e w4 ⟨rfl,hb⟩;have F4:=zq (FD.o.go hb);clear hb;go_simp;refine hK _ _ (fun _ _=>Or.inr ⟨⟨_,CL.o _ F4.o⟩,rfl⟩) ?_;clear hK;refine kR.aK (by kernel_rfl) rfl (fun K hK=>?_)
   simp only[ay,nth]
   refine aA ?_;go_simp;refine (CPA.o _ F4.o).mono ?_;rintro e w5 ⟨hb,ho⟩;have B5:=zq hb;have F5:=zq (F4.o.go hb);clear hb;rcases ho with ⟨hz,U,rfl,own⟩|⟨hz,rfl⟩;rotate_left
   ·have HZ:=zq hz
    try go_simp
    refine hK _ _ (fun _ _=>Or.inr ⟨⟨_,CL.o _ F5.o⟩,rfl⟩) ?_;clear hK hz;refine kR.aC [8,9] (by kernel_rfl) ?_
    simp only[ay,nth]
    repeat (go_big_quiet_step (fail))
    refine wpQuiet_nil ?_;refine kR.bF (fun _=>True) [10] (by kernel_rfl) (fun _ _ _ _=>trivial) ?_
    simp only[ay,nth]
    repeat (go_big_quiet_step (fail))
    refine wpQuiet_nil ?_;refine kR.zM (x:=10) (by kernel_rfl) rfl (by kernel_rfl) (fun K hK=>?_)
    simp only[ay,nth]
    refine oP (F5.o.at_.get 0 rfl) LVM.o bU rfl rfl rfl ?_;refine hK _ _ (Or.inl rfl) ?_;clear hK;go_simp;refine kR.aC [12] (by kernel_rfl) ?_
    simp only[ay,nth]
    repeat (go_big_quiet_step (fail))
    refine wpQuiet_nil ?_;refine kR.aZ ?_;have XX:=zq (show At w (w5.setRow b9 bI) [(b0, 31,C),(b0+1, 31,bI)] from (F5.o.at_.setRow 0 rfl bI).sub (((List.sublist_cons_self _ _).trans (List.sublist_cons_self _ _)).trans (List.sublist_cons_self _ _)));obtain⟨w6,hw6⟩:=Zn (w5.setRow b9 bI);rw[<-hw6] at XX ⊢;clear hw6;have HZ1:=zq (show pe≠0 from HZ.o);have hz':(pe != 0)=true:=by rw[bne_iff_ne];exact HZ1.o
    have WHY:=zq (BAD.o pe HZ1.o (by rw[<-I7.o.go,drop_at HP.o,oV SP.o rfl (by rw[<-EP.o];exact HZ1.o),<-EP.o]));clear F4 F5 B5
    go_wp2_with fail
    refine (oD pe _).mono ?_;rintro e w9 ⟨rfl,hb⟩;have XN:=zq (XX.o.go hb);clear hb
    go_wp2_with (refine bH (cs:=bI) (XN.o.get 1 rfl) bU bU rfl rfl rfl rfl ?_)
    refine bodyPost_ret (dU (cs:=bI) rfl _ _ (setRow_heap _ _ _ _ _ _ (XN.o.get 1 rfl)) bU rfl) rfl (by first|exact nG XN.o (k:=1) rfl (WHY.o)|simpa using nG XN.o (k:=1) rfl (WHY.o))
   have HZ:=zq hz;have LU:=zq (iT own.led);have OW:=zq own;unfold aB.val;clear hz own
   try go_simp
   refine hK _ _ (fun _ _=>Or.inr ⟨⟨_,CL.o _ F5.o⟩,rfl⟩) ?_;clear hK;refine kR.aC [8,9] (by kernel_rfl) ?_
   simp only[ay,nth]
   repeat (go_big_quiet_step (fail))
   refine wpQuiet_nil ?_;refine kR.bF (fun _=>True) [10] (by kernel_rfl) (fun _ _ _ _=>trivial) ?_
   simp only[ay,nth]
   repeat (go_big_quiet_step (fail))
   refine wpQuiet_nil ?_;refine kR.zM (x:=10) (by kernel_rfl) rfl (by kernel_rfl) (fun K hK=>?_)
   simp only[ay,nth]
   refine oP (F5.o.at_.get 0 rfl) LVM.o LU.o rfl rfl rfl ?_;refine hK _ _ (Or.inl rfl) ?_;clear hK;go_simp;refine kR.aC [12] (by kernel_rfl) ?_
   simp only[ay,nth]
   repeat (go_big_quiet_step (fail))
   refine wpQuiet_nil ?_;refine kR.aZ ?_;have F6:=zq (F4.o.swap B5.o OW.o)
   try simp only at HZ
   have Z0:=zq (show pe=0 from HZ.o);have NX:=zq (show pW w R1 b9 ((bq, 50,#[.int .i64 (pa:Int),.int .i64 (pn:Int),.int .i64 pq])::(bi, 66,#[.int .i64 I.kind,.int .i64 (m:Int),.int .i64 I.mult,.int .i64 I.strike,.int .i64 I.aJ,.bool I.call,.int .i64 I.mark])::[(b0, 31,C),(b0+1, 31,bI)]) M L.au f c 0 (j+1) U pm (w5.setRow b9 (U.cells pm)) from by
    have h:=I7.o.next HP.o SP.o rfl (by rw[<-EP.o];exact Z0.o) ⟨by decide,by rw[ML.o];exact AC.o⟩ (by rw[HPA.o.1,ML.o];have:=HPA.o.2;omega) (U:=U) (W2:=w5.setRow b9 (U.cells pm)) (cs:=(bq, 50,#[.int .i64 (pa:Int),.int .i64 (pn:Int),.int .i64 pq])::(bi, 66,#[.int .i64 I.kind,.int .i64 (m:Int),.int .i64 I.mult,.int .i64 I.strike,.int .i64 I.aJ,.bool I.call,.int .i64 I.mark])::[(b0, 31,C),(b0+1, 31,bI)]) (by rw[<-EP.o];exact F6.o);rw[<-EP.o] at h;exact h)
   obtain⟨W7',hW7'⟩:=Zn (w5.setRow b9 (U.cells pm));rw[<-hW7'] at NX ⊢;have hz0:pe=0:=Z0.o;subst hz0;clear hW7' F4 F5 F6 B5 OW LU HZ Z0
   go_wp2_with fail
   go_roundw
   case rel=>exact⟨j+1,by have:=LT5.o;omega,by go_num,_,rfl,zq ⟨U,pm,NX.o.less⟩⟩
   case measure=>have:=LT5.o;simp[intOf];omega
end Go.Proofs.YtcepekniflaoaaaGreatDoor
