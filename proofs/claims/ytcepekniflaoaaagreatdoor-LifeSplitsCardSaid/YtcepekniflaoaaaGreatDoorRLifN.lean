/- The document's Split (printed by tools/gen_rlif.py). -/
import Derived.Test.YtcepekniflaoaaaGreatDoorRLifM
set_option linter.unusedVariables false
set_option linter.unusedSimpArgs false
set_option maxRecDepth 100000
set_option maxHeartbeats 8000000
namespace Go.Proofs.YtcepekniflaoaaaGreatDoor
open Go.RowKit Go.Bw Go.Maps Go.Shelf Go.Bw.Fall
theorem _root_.Go.Bw.dB.Dl {w W W':World} {R0 b:Nat} {bs:List (Nat×TypeId×Array Value)} {V:aB} {l L:aH} {T:TypeId} (h:dB w R0 ((b,T,V.cells L)::bs) V l W) (hm:Mod (fun k=>V.aJ.ownBlock=some k) W W') {v:Value} {xs:List Pos} (ho:aV W' R0 72 3 Pos.cells v xs) (hb:∀ k,v.ownBlock=some k->V.aJ.ownBlock=some k\/W.heap.size<=k) :
 dB w R0 ((b,T,({ V with aJ:=v }:aB).cells L)::bs) { V with aJ:=v } { l with aJ:=xs } (W'.setCell ⟨b,8,none⟩ v):=by
 have f:=h.xP (h.own.xK hm ho hb) hm (q:=7) rfl rfl hb;exact f.cell 0 rfl 8 v
theorem _root_.Go.Bw.dB.Gg {w W W':World} {R0 b:Nat} {bs:List (Nat×TypeId×Array Value)} {V:aB} {l L:aH} {T:TypeId} (h:dB w R0 ((b,T,V.cells L)::bs) V l W) (hm:Mod (fun k=>V.orders.ownBlock=some k) W W') {v:Value} {xs:List Ord} (ho:aV W' R0 74 5 Ord.cells v xs) (hb:∀ k,v.ownBlock=some k->V.orders.ownBlock=some k\/W.heap.size<=k) :
 dB w R0 ((b,T,({ V with orders:=v }:aB).cells L)::bs) { V with orders:=v } { l with orders:=xs } (W'.setCell ⟨b,6,none⟩ v):=by
 have f:=h.xP (h.own.xM hm ho hb) hm (q:=5) rfl rfl hb;exact f.cell 0 rfl 6 v
theorem _root_.Go.Bw.aH.gZ.less {N:aH} (h:N.gZ) {ps:List Pos} (hl:ps.length<=N.au.length):aH.gZ { N with au:=ps } :=
 ⟨⟨h.things.c0,h.things.c1,h.things.u1,h.things.i1,h.things.aQ,h.things.ah,h.things.names,h.things.af⟩,⟨h.accounts.tree,h.accounts.ai⟩,by have:=h.bulk;unfold aH.bulk at this ⊢;simp only;omega⟩
theorem Hg {L:aH} {u num den:Int} (hu:0<=u/\u<L.ah.length) (hn:1<=num/\num<=1000/\1<=den/\den<=1000) :
 (jw L u num den≠0->cO L u num den=.no (jw L u num den))/\(jw L u num den=0->cO L u num den =
  if (dD (ku L u num den) (fun p=>L.dG p.instr) 1 L.au (L.split u num den)).2=0 then
   if dY L u num den L.aJ=0 then
    ⟨{ (dD (ku L u num den) (fun p=>L.dG p.instr) 1 L.au (L.split u num den)).1 with au:=(bn L u num den L.au).filter (fun p=>decide (p.qty≠0)),aJ:=(bn L u num den L.aJ).filter (fun p=>decide (0<p.qty)),orders:=L.orders.filter (fun o=>!L.over u o.instr) },u,0⟩
   else .no (dY L u num den L.aJ)
  else .no (dD (ku L u num den) (fun p=>L.dG p.instr) 1 L.au (L.split u num den)).2):=by
 unfold cO jw;rw[if_pos hu,if_pos hn];by_cases h1:(eU num den (L.und u).price).2=0
 ·by_cases h2:dX.Ok { L.und u with price:=(eU num den (L.und u).price).1 } L.aQ.length
  ·by_cases h3:fC u num den L.ah.length L.af L.aG=0
   ·simp only[if_pos h1,if_pos h2,if_pos h3]
    exact⟨fun h=>absurd h3 h,fun _=>by first|rfl|trivial⟩
   simp only[if_pos h1,if_pos h2,if_neg h3]
   exact⟨fun _=>by first|rfl|trivial,fun h=>absurd h h3⟩
  simp only[if_pos h1,if_neg h2]
  exact⟨fun _=>by first|rfl|trivial,fun h=>by cases h⟩
 simp only[if_neg h1]
 exact⟨fun _=>by first|rfl|trivial,fun h=>absurd h h1⟩
theorem D8 {L:aH} (h:L.Good) {u num den:Int} (hu:0<=u/\u<L.ah.length) (hn:1<=num/\num<=1000/\1<=den/\den<=1000) (hz:jw L u num den=0):(L.split u num den).Good:=by
 unfold jw at hz;by_cases h1:(eU num den (L.und u).price).2=0
 ·rw[if_pos h1] at hz;by_cases h2:dX.Ok { L.und u with price:=(eU num den (L.und u).price).1 } L.aQ.length
  ·rw[if_pos h2] at hz;exact rX h hu hn.1 hn.2.2.1 h2 hz
  rw[if_neg h2] at hz;cases hz
 rw[if_neg h1] at hz;exact absurd hz h1
structure Ox (w:World) (R1 b9:Nat) (bs:List (Nat×TypeId×Array Value)) (L SL:aH) (S:List Pos) (f:Pos->Option (Int×Int)) (c:Pos->Int) (j:Nat) (V':aB) (N:aH) (W':World):Prop where
 jl:dB w R1 ((b9, 31,V'.cells N)::bs) V' { N with au:=(S.take j).filter fun p=>decide (p.qty≠0) } W'
 go:dD f c 1 (L.au.drop j) N=dD f c 1 L.au SL
 dI:dW SL N
theorem yM (w:World) (V:aB) (L:aH) (h:bK w V L) (hL:L.ai.length<=1024) (u num den:Int) :
 Calls Tryz.prog 9 #[V.val L,.int .i64 u,.int .i64 num,.int .i64 den] w (pV w (jM L (cO L u num den))):=by
 classical
 have LC:=zq (iC h);have HH:=zq h;have GD:=zq (show ∀ W,Below w.heap.size w W->∀ B:Bool,decide L.Good=B->Calls Tryz.prog 31 #[V.val L] W fun e w'=>e=.returned (.bool B)/\Below W.heap.size W w' from fun W hb B hB=>N9 (h.below hb) hL hB);have CP:=zq (fun W (hb:Below w.heap.size w W) (hg:L.Good)=>qX W V L (h.below hb) (iq hg).1 (fun a ha=>by have:=(iq hg).2.1 a ha;omega));unfold aB.val at GD CP ⊢;obtain⟨C,hC⟩:=Zn (V.cells L);have EC:=zq hC;rw[<-hC] at GD CP LC ⊢;obtain⟨W0,hW0⟩:=Zn ((w.alloc (.cells C 31)).alloc (.cells #[.int .i64 0,.slice none 0 0,.slice none 0 0,.slice none 0 0,.slice none 0 0,.slice none 0 0,.slice none 0 0,.slice none 0 0,.slice none 0 0] 31));obtain⟨b0,hb0⟩:=Zn w.heap.size;have X0:=zq (show At w W0 [(b0, 31,C),(b0+1, 31,aZ)] from by
  have a:=(((At.start w).alloc 31 C).alloc 31 #[.int .i64 0,.slice none 0 0,.slice none 0 0,.slice none 0 0,.slice none 0 0,.slice none 0 0,.slice none 0 0,.slice none 0 0,.slice none 0 0]);have e:∀ (w:World) (o:Obj),(w.alloc o).heap.size=w.heap.size+1:=fun w o=>by simp
  simp only[e] at a
  rw[<-hW0,<-hb0] at a;exact a)
 clear h hL hC
 go_enter Tryz.func9,Tryz.ntmps9
 go_upto_region 1 with (fail)
 rw[<-hW0,<-hb0];clear hW0 hb0
 go_wp2_with (refine bW (X0.o.get 0 rfl) LC.o rfl rfl rfl ?_)
 by_cases hg:L.Good;rotate_left
 ·refine (GD.o W0 X0.o.low false (decide_eq_false hg)).mono ?_;rintro e w1 ⟨rfl,hb⟩;have XX:=zq (X0.o.go hb);have HG:=zq hg;clear hb X0 hg GD
  go_wp2_with fail
  refine (fU 43 _).mono ?_;rintro e w9 ⟨rfl,hb⟩;have XN:=zq (XX.o.go hb);clear hb
  go_wp2_with (refine aW (cs:=aZ) (XN.o.get 1 rfl) bG bG rfl rfl rfl rfl ?_)
  refine bodyPost_ret (bZ (cs:=aZ) rfl _ _ (setRow_heap _ _ _ _ _ _ (XN.o.get 1 rfl)) bG rfl) rfl (by first|exact fB XN.o (k:=1) rfl (sF HG.o _)|simpa using fB XN.o (k:=1) rfl (sF HG.o _))
 refine (GD.o W0 X0.o.low true (decide_eq_true hg)).mono ?_;rintro e w1 ⟨rfl,hb⟩;have XX:=zq (X0.o.go hb);have HG:=zq hg;clear hb X0 hg GD;obtain⟨a2,c2,e2⟩:=HH.o.ah.form;obtain⟨n2,hn2⟩:=Zn L.ah.length;have N2:=zq hn2;have GOODL:=zq (fun (he:(cO L u num den).err=0)=>qL HG.o he);have AC:=zq (oK HG.o);have y2:w1.cell? ⟨b0,2,none⟩=some (.slice a2 n2 c2):=XX.o.cell 0 rfl 2 (by rw[EC.o,hn2,<-e2];rfl);clear e2 hn2;by_cases h0:u<0
 ·have d0:decide (u<0)=true:=decide_eq_true h0
  go_wp2_with fail
  refine (fU 31 _).mono ?_;rintro e w9 ⟨rfl,hb⟩;have XN:=zq (XX.o.go hb);clear hb
  go_wp2_with (refine aW (cs:=aZ) (XN.o.get 1 rfl) bG bG rfl rfl rfl rfl ?_)
  refine bodyPost_ret (bZ (cs:=aZ) rfl _ _ (setRow_heap _ _ _ _ _ _ (XN.o.get 1 rfl)) bG rfl) rfl (by first|exact fB XN.o (k:=1) rfl (by rw[jk HG.o (by unfold cO;rw[if_neg (by omega)];decide)];unfold cO;rw[if_neg (by omega)];rfl)|simpa using fB XN.o (k:=1) rfl (by rw[jk HG.o (by unfold cO;rw[if_neg (by omega)];decide)];unfold cO;rw[if_neg (by omega)];rfl))
 obtain⟨kk,rfl⟩:∃ k:Nat,u=k:=⟨u.toNat,by omega⟩;by_cases h1:kk<n2;rotate_left
 ·have h1':(n2:Int)<=(kk:Int):=by omega
  go_wp2_with fail
  refine (fU 31 _).mono ?_;rintro e w9 ⟨rfl,hb⟩;have XN:=zq (XX.o.go hb);clear hb
  go_wp2_with (refine aW (cs:=aZ) (XN.o.get 1 rfl) bG bG rfl rfl rfl rfl ?_)
  refine bodyPost_ret (bZ (cs:=aZ) rfl _ _ (setRow_heap _ _ _ _ _ _ (XN.o.get 1 rfl)) bG rfl) rfl (by first|exact fB XN.o (k:=1) rfl (by rw[jk HG.o (by unfold cO;rw[if_neg (by have:=N2.o;omega)];decide)];unfold cO;rw[if_neg (by have:=N2.o;omega)];rfl)|simpa using fB XN.o (k:=1) rfl (by rw[jk HG.o (by unfold cO;rw[if_neg (by have:=N2.o;omega)];decide)];unfold cO;rw[if_neg (by have:=N2.o;omega)];rfl))
 have hk':=zq (show kk<L.ah.length from by rw[<-N2.o];exact h1);have h1':¬ (n2:Int)<=(kk:Int):=by omega
 have h2':¬ (kk:Int)<0:=by omega
 clear h0 h1;have WHY1:=zq (show ¬ (1<=num/\num<=1000/\1<=den/\den<=1000)->jM L (cO L (kk:Int) num den)=(L0,0,1) from fun h=>by
  have e:cO L (kk:Int) num den=.no 1:=by unfold cO;rw[if_pos (by have:=hk'.o;omega),if_neg h]
  rw[e,jk HG.o (by decide)];rfl)
 by_cases hx0:num<1
 ·have WHY:=zq (WHY1.o (by omega));have d0:decide (num<1)=true:=decide_eq_true hx0;clear hx0
  go_wp2_with fail
  refine (fU 1 _).mono ?_;rintro e w9 ⟨rfl,hb⟩;have XN:=zq (XX.o.go hb);clear hb
  go_wp2_with (refine aW (cs:=aZ) (XN.o.get 1 rfl) bG bG rfl rfl rfl rfl ?_)
  refine bodyPost_ret (bZ (cs:=aZ) rfl _ _ (setRow_heap _ _ _ _ _ _ (XN.o.get 1 rfl)) bG rfl) rfl (by first|exact fB XN.o (k:=1) rfl (WHY.o)|simpa using fB XN.o (k:=1) rfl (WHY.o))
 by_cases hx1:1000<num
 ·have WHY:=zq (WHY1.o (by omega));have d0:decide (num<1)=false:=decide_eq_false hx0;have d1:decide (1000<num)=true:=decide_eq_true hx1;clear hx0 hx1
  go_wp2_with fail
  refine (fU 1 _).mono ?_;rintro e w9 ⟨rfl,hb⟩;have XN:=zq (XX.o.go hb);clear hb
  go_wp2_with (refine aW (cs:=aZ) (XN.o.get 1 rfl) bG bG rfl rfl rfl rfl ?_)
  refine bodyPost_ret (bZ (cs:=aZ) rfl _ _ (setRow_heap _ _ _ _ _ _ (XN.o.get 1 rfl)) bG rfl) rfl (by first|exact fB XN.o (k:=1) rfl (WHY.o)|simpa using fB XN.o (k:=1) rfl (WHY.o))
 by_cases hx2:den<1
 ·have WHY:=zq (WHY1.o (by omega));have d0:decide (num<1)=false:=decide_eq_false hx0;have d1:decide (1000<num)=false:=decide_eq_false hx1;have d2:decide (den<1)=true:=decide_eq_true hx2;clear hx0 hx1 hx2
  go_wp2_with fail
  refine (fU 1 _).mono ?_;rintro e w9 ⟨rfl,hb⟩;have XN:=zq (XX.o.go hb);clear hb
  go_wp2_with (refine aW (cs:=aZ) (XN.o.get 1 rfl) bG bG rfl rfl rfl rfl ?_)
  refine bodyPost_ret (bZ (cs:=aZ) rfl _ _ (setRow_heap _ _ _ _ _ _ (XN.o.get 1 rfl)) bG rfl) rfl (by first|exact fB XN.o (k:=1) rfl (WHY.o)|simpa using fB XN.o (k:=1) rfl (WHY.o))
 by_cases hx3:1000<den
 ·have WHY:=zq (WHY1.o (by omega));have d0:decide (num<1)=false:=decide_eq_false hx0;have d1:decide (1000<num)=false:=decide_eq_false hx1;have d2:decide (den<1)=false:=decide_eq_false hx2;have d3:decide (1000<den)=true:=decide_eq_true hx3;clear hx0 hx1 hx2 hx3
  go_wp2_with fail
  refine (fU 1 _).mono ?_;rintro e w9 ⟨rfl,hb⟩;have XN:=zq (XX.o.go hb);clear hb
  go_wp2_with (refine aW (cs:=aZ) (XN.o.get 1 rfl) bG bG rfl rfl rfl rfl ?_)
  refine bodyPost_ret (bZ (cs:=aZ) rfl _ _ (setRow_heap _ _ _ _ _ _ (XN.o.get 1 rfl)) bG rfl) rfl (by first|exact fB XN.o (k:=1) rfl (WHY.o)|simpa using fB XN.o (k:=1) rfl (WHY.o))
 have d0:decide (num<1)=false:=decide_eq_false hx0;have d1:decide (1000<num)=false:=decide_eq_false hx1;have d2:decide (den<1)=false:=decide_eq_false hx2;have d3:decide (1000<den)=false:=decide_eq_false hx3;have HN:=zq (show 1<=num/\num<=1000/\1<=den/\den<=1000 from ⟨by omega,by omega,by omega,by omega⟩);clear hx0 hx1 hx2 hx3 WHY1;have TOLD:=zq (Hg (L:=L) (u:=(kk:Int)) (by have:=hk'.o;omega) HN.o);have TH:=zq (fun W (hb:Below w.heap.size w W)=>DJ W V L (HH.o.below hb) HG.o kk hk'.o num den);unfold aB.val at TH;rw[<-EC.o] at TH
 go_wp2_with (refine bW (XX.o.get 0 rfl) LC.o rfl rfl rfl ?_)
 refine (TH.o w1 XX.o.low).mono ?_;rintro e w2 ⟨hb,⟨hz,V2,rfl,own⟩|⟨hz,V9,M9,rfl,hl9⟩⟩;rotate_left
 ·have L9:=zq (iC hl9);obtain⟨E,hE⟩:=Zn (jw L (kk:Int) num den);rw[<-hE] at hz ⊢;have WHY:=zq (show jM L (cO L (kk:Int) num den)=(L0,0,E) from by
   rw[TOLD.o.1 (by rw[<-hE];exact hz),<-hE,jk HG.o hz];rfl)
  have hz':(E != 0)=true:=by rw[bne_iff_ne];exact hz
  have XA:=zq (show At w (w2.alloc (.cells (V9.cells M9) 31)) [(b0, 31,C),(b0+1, 31,aZ)] from (XX.o.go hb).go (Zb));unfold aB.val;clear hl9 hE hz hb TH TOLD
  go_upto_region 8 with (refine aW (heap_alloc_last _ _) bG L9.o rfl rfl rfl rfl ?_;rw[World.setRow_alloc_new])
  go_wp2_with fail
  refine (fU E _).mono ?_;rintro e w9 ⟨rfl,hb⟩;have XN:=zq (XA.o.go hb);clear hb
  go_wp2_with (refine aW (cs:=aZ) (XN.o.get 1 rfl) bG bG rfl rfl rfl rfl ?_)
  refine bodyPost_ret (bZ (cs:=aZ) rfl _ _ (setRow_heap _ _ _ _ _ _ (XN.o.get 1 rfl)) bG rfl) rfl (by first|exact fB XN.o (k:=1) rfl (WHY.o)|simpa using fB XN.o (k:=1) rfl (WHY.o))
 have EZ:=zq hz;have ES:=zq (TOLD.o.2 hz);have FF:=zq (sS XX.o own hb);have L2:=zq (iC own.led);unfold aB.val;clear own hb TH TOLD hz y2 h1' h2' d0 d1 d2 d3;obtain⟨SL,hSL⟩:=Zn (L.split (kk:Int) num den);have ESL:=zq hSL;rw[<-hSL] at FF L2 ES ⊢;clear hSL
 go_upto_region 8 with (refine aW (heap_alloc_last _ _) bG L2.o rfl rfl rfl rfl ?_;rw[World.setRow_alloc_new])
 obtain⟨W3,hW3⟩:=Zn (w2.alloc (.cells (V2.cells SL) 31));obtain⟨b9,hb9⟩:=Zn w2.heap.size;rw[<-hW3,<-hb9] at FF;rw[<-hW3,<-hb9];clear hW3 hb9;obtain⟨R1,hR1⟩:=Zn w1.heap.size;rw[<-hR1] at FF;clear hR1 XX;have y5:W3.cell? ⟨b9,5,none⟩=some V2.au:=FF.o.at_.cell 0 rfl 5 rfl;have z5:=FF.o.at_.free 0 rfl 5;obtain⟨a6,c6,e6⟩:=FF.o.own.led.au.form;rw[e6] at y5
 go_upto_region 11 with (fail)
 have F1:=zq (FF.o.Rf 0 rfl);obtain⟨W4,hW4⟩:=Zn (W3.setCell ⟨b9,5,none⟩ (.slice none 0 0));rw[<-hW4] at F1;rw[<-hW4];clear hW4 y5 z5 e6 FF;obtain⟨f,hf⟩:=Zn (ku L (kk:Int) num den);obtain⟨c,hc⟩:∃ c:Pos->Int,c=fun p=>L.dG p.instr:=⟨_,rfl⟩
 have EF:=zq (show ∀ p,c p=L.dG p.instr from fun p=>by rw[hc]);have SF:=zq (show ∀ p:Pos,f p=if L.over (kk:Int) p.instr=true then some (mr num den (L.ins p.instr) p.qty) else none from fun p=>by rw[hf];rfl);rw[<-hf,<-hc] at ES;clear hf hc;have SG:=zq (show SL.Good from by rw[ESL.o];exact D8 HG.o (by have:=hk'.o;omega) HN.o EZ.o);obtain⟨a5,c5,e5⟩:=HH.o.au.form;obtain⟨a3,c3,e3⟩:=HH.o.af.form;have E5:=zq e5;have E3:=zq e3;obtain⟨n5,hn5⟩:=Zn L.au.length;obtain⟨n3,hn3⟩:=Zn L.af.length;have N5:=zq hn5;have N3:=zq hn3;have x5:W4.cell? ⟨b0,5,none⟩=some (.slice a5 n5 c5):=F1.o.at_.cell 1 rfl 5 (by rw[EC.o,hn5,<-e5];rfl);clear e5 e3 hn5 hn3;obtain⟨S,hS⟩:=Zn (bn L (kk:Int) num den L.au);have EQS:=zq hS;rw[<-hS] at ES;clear hS
 go_wp2_with fail
 go_loopw [81] (fun i wr=>∃ j:Nat,j<=n5/\i=.int .i64 j/\∃ W',W'=wr/\Hid (∃ V' N,Ox w R1 b9 [(b0, 31,C),(b0+1, 31,aZ)] L SL S f c j V' N W')) (fun i _=>n5 - (intOf i).toNat)
 case atStart=>exact⟨0,Nat.zero_le _,rfl,_,rfl,zq ⟨_,SL,F1.o,by rw[List.drop_zero],dW.rfl⟩⟩
 clear x5 F1 L2;obtain⟨j,hj,rfl,W',rfl,IV0⟩:=hrel;obtain⟨V',N,IV1⟩:=IV0.o;have IV:=zq IV1;clear IV0 IV1;by_cases hlt:j<n5;rotate_left
 ·have hlt':¬ (j:Int)<(n5:Int):=by omega
  have GO:=zq (show dD f c 1 L.au SL=(N,0) from by rw[<-IV.o.go,nN (by rw[<-N5.o];omega)];rfl);have FA:=zq (show dB w R1 ((b9, 31,V'.cells N)::[(b0, 31,C),(b0+1, 31,aZ)]) V' { N with au:=S.filter fun p=>decide (p.qty≠0) } W' from by
   have h:=IV.o.jl;rw[List.take_of_length_le (by rw[EQS.o,eX,<-N5.o];omega)] at h;exact h)
  have CA:=zq IV.o.dI;clear hlt hj IV;have ES2:=zq (show cO L (kk:Int) num den=if dY L (kk:Int) num den L.aJ=0 then ⟨{ N with au:=S.filter (fun p=>decide (p.qty≠0)),aJ:=(bn L (kk:Int) num den L.aJ).filter (fun p=>decide (0<p.qty)),orders:=L.orders.filter (fun o=>!L.over (kk:Int) o.instr) },(kk:Int),0⟩ else .no (dY L (kk:Int) num den L.aJ) from by rw[ES.o,GO.o,if_pos rfl]);obtain⟨PS,hPS⟩:∃ l,l=S.filter fun p=>decide (p.qty≠0):=⟨_,rfl⟩
  rw[<-hPS] at FA ES2;obtain⟨SO,hSO⟩:=Zn (bn L (kk:Int) num den L.aJ);have ESO:=zq hSO;rw[<-hSO] at ES2;clear hPS hSO ES;have y8:W'.cell? ⟨b9,8,none⟩=some V'.aJ:=FA.o.at_.cell 0 rfl 8 rfl;have z8:=FA.o.at_.free 0 rfl 8;obtain⟨a8',c8',e8'⟩:=FA.o.own.led.aJ.form;rw[e8'] at y8
  go_upto_region 35 with (fail)
  have FB:=zq (show dB w R1 ((b9, 31,({ V' with aJ:=.slice none 0 0 }:aB).cells N)::[(b0, 31,C),(b0+1, 31,aZ)]) { V' with aJ:=.slice none 0 0 } { N with au:=PS,aJ:=(SO.take 0).filter fun p=>decide (0<p.qty) } (W'.setCell ⟨b9,8,none⟩ (.slice none 0 0)) from FA.o.Q9 0 rfl);obtain⟨W4,hW4⟩:=Zn (W'.setCell ⟨b9,8,none⟩ (.slice none 0 0));rw[<-hW4] at FB;rw[<-hW4];clear hW4 y8 z8 e8' FA;obtain⟨a8,c8,e8⟩:=HH.o.aJ.form;have E8:=zq e8;obtain⟨n8,hn8⟩:=Zn L.aJ.length;have N8:=zq hn8;have x8:W4.cell? ⟨b0,8,none⟩=some (.slice a8 n8 c8):=FB.o.at_.cell 1 rfl 8 (by rw[EC.o,hn8,<-e8];rfl);have L32:=zq HG.o.aJ.Ae;clear e8 hn8
  go_wp2_with fail
  go_loopw [210] (fun i wr=>∃ j:Nat,j<=n8/\i=.int .i64 j/\∃ W',W'=wr/\Hid (∃ V',dB w R1 ((b9, 31,V'.cells N)::[(b0, 31,C),(b0+1, 31,aZ)]) V' { N with au:=PS,aJ:=(SO.take j).filter fun p=>decide (0<p.qty) } W'/\dY L (kk:Int) num den (L.aJ.drop j)=dY L (kk:Int) num den L.aJ)) (fun i _=>n8 - (intOf i).toNat)
  case atStart=>exact⟨0,Nat.zero_le _,rfl,_,rfl,zq ⟨_,FB.o,by rw[List.drop_zero]⟩⟩
  clear x8 FB;obtain⟨j,hj,rfl,W',rfl,IV0⟩:=hrel;obtain⟨V',IV1,IV2⟩:=IV0.o;have IV:=zq IV1;have IG:=zq IV2;clear IV0 IV1 IV2;by_cases hlt:j<n8;rotate_left
  ·have hlt':¬ (j:Int)<(n8:Int):=by omega
   have ZE:=zq (show dY L (kk:Int) num den L.aJ=0 from by rw[<-IG.o,List.drop_eq_nil_of_le (by rw[<-N8.o];omega)];rfl);have ES3:=zq (ES2.o.trans (if_pos ZE.o));have FA:=zq (show dB w R1 ((b9, 31,V'.cells N)::[(b0, 31,C),(b0+1, 31,aZ)]) V' { N with au:=PS,aJ:=SO.filter fun p=>decide (0<p.qty) } W' from by
    have h:=IV.o;rw[List.take_of_length_le (by rw[ESO.o,eX,<-N8.o];omega)] at h;exact h)
   clear hlt hj IV IG ES2;obtain⟨LS,hLS⟩:∃ l,l=SO.filter fun p=>decide (0<p.qty):=⟨_,rfl⟩
   rw[<-hLS] at FA ES3;clear hLS;have y6:W'.cell? ⟨b9,6,none⟩=some V'.orders:=FA.o.at_.cell 0 rfl 6 rfl;have z6:=FA.o.at_.free 0 rfl 6;obtain⟨a6',c6',e6'⟩:=FA.o.own.led.orders.form;rw[e6'] at y6
   go_upto_region 46 with (fail)
   have FB:=zq (show dB w R1 ((b9, 31,({ V' with orders:=.slice none 0 0 }:aB).cells N)::[(b0, 31,C),(b0+1, 31,aZ)]) { V' with orders:=.slice none 0 0 } { N with au:=PS,aJ:=LS,orders:=(L.orders.take 0).filter fun o=>!L.over (kk:Int) o.instr } (W'.setCell ⟨b9,6,none⟩ (.slice none 0 0)) from FA.o.Pj 0 rfl);obtain⟨W4,hW4⟩:=Zn (W'.setCell ⟨b9,6,none⟩ (.slice none 0 0));rw[<-hW4] at FB;rw[<-hW4];clear hW4 y6 z6 e6' FA;obtain⟨a6,c6,e6⟩:=HH.o.orders.form;have E6:=zq e6;obtain⟨n6,hn6⟩:=Zn L.orders.length;have N6:=zq hn6;have x6:W4.cell? ⟨b0,6,none⟩=some (.slice a6 n6 c6):=FB.o.at_.cell 1 rfl 6 (by rw[EC.o,hn6,<-e6];rfl);have O32:=zq HG.o.orders.len;clear e6 hn6
   go_wp2_with fail
   go_loopw [253] (fun i wr=>∃ j:Nat,j<=n6/\i=.int .i64 j/\∃ W',W'=wr/\Hid (∃ V',dB w R1 ((b9, 31,V'.cells N)::[(b0, 31,C),(b0+1, 31,aZ)]) V' { N with au:=PS,aJ:=LS,orders:=(L.orders.take j).filter fun o=>!L.over (kk:Int) o.instr } W')) (fun i _=>n6 - (intOf i).toNat)
   case atStart=>exact⟨0,Nat.zero_le _,rfl,_,rfl,zq ⟨_,FB.o⟩⟩
   clear x6 FB;obtain⟨j,hj,rfl,W',rfl,IV0⟩:=hrel;obtain⟨V',IV1⟩:=IV0.o;have IV:=zq IV1;clear IV0 IV1;by_cases hlt:j<n6;rotate_left
   ·have hlt':¬ (j:Int)<(n6:Int):=by omega
    obtain⟨ME,hME⟩:∃ l:aH,l={ N with au:=PS,aJ:=LS,orders:=L.orders.filter fun o=>!L.over (kk:Int) o.instr }:=⟨_,rfl⟩;have F6:=zq (show dB w R1 ((b9, 31,V'.cells ME)::[(b0, 31,C),(b0+1, 31,aZ)]) V' ME W' from by
     have h:=IV.o;rw[List.take_of_length_le (by rw[<-N6.o];omega)] at h;rw[hME];exact h)
    have ES4:=zq (show cO L (kk:Int) num den=⟨ME,(kk:Int),0⟩ from by rw[ES3.o,hME]);clear hlt hj IV hME;have LE:=zq (iC F6.o.own.led);have EX:=zq (show cO L (kk:Int) num den=(⟨ME,(kk:Int),0⟩:yP) from ES4.o);have EE:=zq (show jM L (cO L (kk:Int) num den)=zX ME (kk:Int) from by rw[KY HG.o (by rw[EX.o]),EX.o]);have GE:=zq (show aH.Good ME from by
     have:=GOODL.o (by rw[EX.o]);rw[EX.o] at this;exact this)
    have EN:=zq (NV W' V' ME F6.o.own.led GE.o (kk:Int));unfold aB.val at EN
    go_wp2_with (refine bW (F6.o.at_.get 0 rfl) LE.o rfl rfl rfl ?_)
    refine EN.o.mono ?_;obtain⟨a,ha⟩:=Zn (zX ME (kk:Int));rw[<-ha] at EE ⊢;rintro e w7 ⟨U,rfl,own,hb⟩;have OW:=zq own;have BB:=zq hb;have X7:=zq (F6.o.at_.go hb);have LU:=zq (iC own.led);unfold aB.val;clear own hb ha EN;go_simp
    go_wp2_with (refine aW (X7.o.get 2 rfl) bG LU.o rfl rfl rfl rfl ?_)
    exact bodyPost_ret (bZ rfl _ _ (setRow_heap _ _ _ _ _ _ (X7.o.get 2 rfl)) LU.o rfl) rfl (by first|exact Io F6.o.at_ BB.o OW.o (k:=2) rfl EE.o.symm rfl rfl rfl|simpa using Io F6.o.at_ BB.o OW.o (k:=2) rfl EE.o.symm rfl rfl rfl)
   have hlt':(j:Int)<(n6:Int):=by omega
   have n32:n6<=32:=by rw[N6.o];exact O32.o
   have LT:=zq hlt;obtain⟨p,hp⟩:∃ p,L.orders[j]?=some p:=⟨_,Zg (by rw[<-N6.o];exact hlt)⟩;have HP:=zq hp;have HW:=zq (HH.o.below IV.o.at_.low);obtain⟨bp,op,cp,ep,hc⟩:=HW.o.orders.place hp;have ea:a6=some ⟨bp,op,none⟩:=by have:=E6.o;rw[ep] at this;injection this with h _ _;exact h.symm
   obtain⟨p2,p3,p4,p5,p6,p7,_⟩:=HG.o.orders.all p (List.mem_of_getElem? hp);obtain⟨pn,hpn⟩:∃ x:Nat,p.instr=x:=⟨p.instr.toNat,by omega⟩;have HPN:=zq (And.intro hpn (show pn<L.af.length from by omega));obtain⟨i,hi⟩:=Zn (L.ins (pn:Int));have HI:=zq hi;have LI:=zq (show L.af[pn]?=some i from by rw[hi];exact aH.jE HPN.o.2);obtain⟨bi0,oi0,ci0,ei0,hci⟩:=HW.o.af.place LI.o;have ea3:a3=some ⟨bi0,oi0,none⟩:=by have:=E3.o;rw[ei0] at this;injection this with h _ _;exact h.symm
   have q0:W'.cell? ⟨bp,op+j*5,none⟩=some (.int .i64 p.ak):=by have:=hc 0 _ rfl;simpa using this
   have q1:=hc 1 _ rfl;have q2:W'.cell? ⟨bp,op+j*5+2,none⟩=some (.int .i64 (pn:Int)):=by rw[<-hpn];exact hc 2 _ rfl
   have q3:=hc 3 _ rfl;have q4:=hc 4 _ rfl;subst ea;subst ea3;clear hp hc ep hlt hj p2 p3 p4 p5 p6 p7 hpn ei0 hci HW hi;obtain⟨KL,hKL⟩:∃ KL,KL=(L.orders.take j).filter fun o=>!L.over (kk:Int) o.instr:=⟨_,rfl⟩
   have EK:=zq hKL;have LK:=zq (show KL.length+1<=1000 from by
    have h1:=List.length_filter_le (fun o:Ord=>!L.over (kk:Int) o.instr) (L.orders.take j);have h2:=List.length_take_le j L.orders;have h3:=LT.o;rw[<-hKL] at h1;omega)
   have FI:=zq (show dB w R1 ((b9, 31,V'.cells N)::[(b0, 31,C),(b0+1, 31,aZ)]) V' { N with au:=PS,aJ:=LS,orders:=KL } W' from by rw[hKL];exact IV.o);clear hKL
   go_upto_region 49 with (fail)
   obtain⟨W4,hW4⟩:=Zn (W'.alloc (.cells #[.int .i64 p.ak,.int .i64 p.id,.int .i64 (pn:Int),.int .i64 p.qty,.int .i64 p.price] 74));obtain⟨bq,hbq⟩:=Zn W'.heap.size;have FP:=zq (show dB w R1 ((b9, 31,V'.cells N)::(bq, 74,#[.int .i64 p.ak,.int .i64 p.id,.int .i64 (pn:Int),.int .i64 p.qty,.int .i64 p.price])::[(b0, 31,C),(b0+1, 31,aZ)]) V' { N with au:=PS,aJ:=LS,orders:=KL } W4 from by rw[hW4,hbq];exact FI.o.add1 _ _);rw[<-hW4,<-hbq];clear hW4 hbq q0 q1 q2 q3 q4 FI;have hal:=(HH.o.below FP.o.at_.low).af;rw[E3.o] at hal;have y3:W4.cell? ⟨b0,3,none⟩=some (.slice (some ⟨bi0,oi0,none⟩) n3 c3):=FP.o.at_.cell 2 rfl 3 (by rw[EC.o,N3.o,<-E3.o];rfl);have q2:W4.cell? ⟨bq,2,none⟩=some (.int .i64 (pn:Int)):=FP.o.at_.cell 1 rfl 2 rfl;have i1:W4.cell? ⟨bi0,oi0+pn*7+1,none⟩=some (.int .i64 i.under):=hal.near LI.o (j:=1) rfl;have k0:(0:Int)<=(pn:Int):=by omega
   have k1:(pn:Int)<(n3:Int):=by have:=HPN.o.2;have:=N3.o;omega
   clear hal;by_cases hu:i.under=(kk:Int)
   ·have qq:(i.under != (kk:Int))=false:=by simp[hu]
    have OV:=zq (show L.over (kk:Int) p.instr=true from by rw[HPN.o.1];unfold aH.over;rw[<-HI.o];exact decide_eq_true hu);have NX:=zq (show dB w R1 ((b9, 31,V'.cells N)::[(b0, 31,C),(b0+1, 31,aZ)]) V' { N with au:=PS,aJ:=LS,orders:=(L.orders.take (j+1)).filter fun o=>!L.over (kk:Int) o.instr } W4 from by
     rw[keep_next HP.o,if_neg (by rw[OV.o];decide),List.append_nil,<-EK.o];exact FP.o.drop1)
    clear hu
    go_wp2_with fail
    go_roundw
    case rel=>exact⟨j+1,by have:=LT.o;omega,by go_num,_,rfl,zq ⟨_,NX.o⟩⟩
    case measure=>have:=LT.o;simp[intOf];omega
   have qq:(i.under != (kk:Int))=true:=by rw[bne_iff_ne];exact hu
   have OV:=zq (show L.over (kk:Int) p.instr=false from by rw[HPN.o.1];unfold aH.over;rw[<-HI.o];exact decide_eq_false hu);obtain⟨ap,cp,ep⟩:=FP.o.own.led.orders.form;obtain⟨np,hnp⟩:=Zn (({ N with au:=PS,aJ:=LS,orders:=KL }:aH).orders.length);rw[<-hnp] at ep;obtain⟨v',w3,hrun,ho,hm,hbk⟩:=wQ W4 R1 V'.orders KL FP.o.own.orders FP.o.rb p #[.int .i64 p.ak,.int .i64 p.id,.int .i64 (pn:Int),.int .i64 p.qty,.int .i64 p.price] (by show _=[Value.int .i64 p.ak,.int .i64 p.id,.int .i64 p.instr,.int .i64 p.qty,.int .i64 p.price];rw[HPN.o.1]) (by have:=LK.o;omega);obtain⟨a',c',hv',_⟩:=ho.form;have FN:=zq (FP.o.Gg hm ho hbk);have hnb:¬ V'.orders.ownBlock=some b9:=FP.o.uq (b9, 31,V'.cells N) (by simp) V'.orders (by simp[aB.rows]);have y5:W4.cell? ⟨b9,6,none⟩=some (.slice ap np cp):=by rw[<-ep];exact FP.o.at_.cell 0 rfl 6 rfl
   have y5':w3.cell? ⟨b9,6,none⟩=some (.slice ap np cp):=hm.cell y5 hnb;have z5':w3.frozen? ⟨b9,6,none⟩=false:=by
    have g:=hm.heap (FP.o.at_.get 0 rfl) hnb;unfold World.frozen?;simp[g]
   obtain⟨n',hn'⟩:∃ n',n'=(KL++[p]).length:=⟨_,rfl⟩;rw[<-hn'] at hv';subst hv';rw[ep] at hrun;have RUN:=zq hrun;have NX:=zq (show dB w R1 ((b9, 31,({ V' with orders:=.slice a' n' c' }:aB).cells N)::[(b0, 31,C),(b0+1, 31,aZ)]) { V' with orders:=.slice a' n' c' } { N with au:=PS,aJ:=LS,orders:=(L.orders.take (j+1)).filter fun o=>!L.over (kk:Int) o.instr } (w3.setCell ⟨b9,6,none⟩ (.slice a' n' c')) from by
    rw[keep_next HP.o,if_pos (by rw[OV.o];decide),<-EK.o];exact FN.o.drop1)
   have p0:W4.cell? ⟨bq,0,none⟩=some (.int .i64 p.ak):=FP.o.at_.cell 1 rfl 0 rfl;have p1:W4.cell? ⟨bq,1,none⟩=some (.int .i64 p.id):=FP.o.at_.cell 1 rfl 1 rfl;have p3:W4.cell? ⟨bq,3,none⟩=some (.int .i64 p.qty):=FP.o.at_.cell 1 rfl 3 rfl;have p4:W4.cell? ⟨bq,4,none⟩=some (.int .i64 p.price):=FP.o.at_.cell 1 rfl 4 rfl;clear hrun ho hm hbk hn' hnp ep hnb FN hu
   go_wp2_with (at_builtin;refine wpList_append_run rfl (.tmp 267) (.tmp 269) 27 rfl rfl rfl RUN.o ?_)
   go_roundw
   case rel=>exact⟨j+1,by have:=LT.o;omega,by go_num,_,rfl,zq ⟨_,NX.o⟩⟩
   case measure=>have:=LT.o;simp[intOf];omega
  have hlt':(j:Int)<(n8:Int):=by omega
  have n32:n8<=32:=by rw[N8.o];exact L32.o
  have LT:=zq hlt;obtain⟨p,hp⟩:∃ p,L.aJ[j]?=some p:=⟨_,Zg (by rw[<-N8.o];exact hlt)⟩;have HP:=zq hp;have HW:=zq (HH.o.below IV.o.at_.low);obtain⟨bp,op,cp,ep,hc⟩:=HW.o.aJ.place hp;have ea:a8=some ⟨bp,op,none⟩:=by have:=E8.o;rw[ep] at this;injection this with h _ _;exact h.symm
  obtain⟨p2,p3,p4,p5,p6,p7⟩:=HG.o.aJ.all p (List.mem_of_getElem? hp);obtain⟨pn,hpn⟩:∃ x:Nat,p.instr=x:=⟨p.instr.toNat,by omega⟩;have HPN:=zq (And.intro hpn (show pn<L.af.length from by omega));have HPQ:=zq p6;obtain⟨i,hi⟩:=Zn (L.ins (pn:Int));have HI:=zq hi;have LI:=zq (show L.af[pn]?=some i from by rw[hi];exact aH.jE HPN.o.2);obtain⟨bi0,oi0,ci0,ei0,hci⟩:=HW.o.af.place LI.o;have ea3:a3=some ⟨bi0,oi0,none⟩:=by have:=E3.o;rw[ei0] at this;injection this with h _ _;exact h.symm
  have q0:W'.cell? ⟨bp,op+j*3,none⟩=some (.int .i64 p.ak):=by have:=hc 0 _ rfl;simpa using this
  have q1:W'.cell? ⟨bp,op+j*3+1,none⟩=some (.int .i64 (pn:Int)):=by rw[<-hpn];exact hc 1 _ rfl
  have q2:=hc 2 _ rfl;subst ea;subst ea3;have LEJ:=zq (show dY L (kk:Int) num den (p::L.aJ.drop (j+1))=dY L (kk:Int) num den L.aJ from by rw[<-drop_at hp];exact IG.o);clear hp hc ep hlt hj p2 p3 p4 p5 p6 p7 hpn ei0 hci HW hi;obtain⟨KL,hKL⟩:∃ KL,KL=(SO.take j).filter fun p=>decide (0<p.qty):=⟨_,rfl⟩
  have EK:=zq hKL;have LK:=zq (show KL.length+1<=1000 from by
   have h1:=List.length_filter_le (fun p:Pos=>decide (0<p.qty)) (SO.take j);have h2:=List.length_take_le j SO;have h3:=LT.o;rw[<-hKL] at h1;omega)
  have FI:=zq (show dB w R1 ((b9, 31,V'.cells N)::[(b0, 31,C),(b0+1, 31,aZ)]) V' { N with au:=PS,aJ:=KL } W' from by rw[hKL];exact IV.o);obtain⟨pq,hpq⟩:=Zn p.qty;have PQ:=zq hpq;rw[<-hpq] at q2;clear hKL hpq
  go_upto_region 38 with (fail)
  obtain⟨W4,hW4⟩:=Zn (W'.alloc (.cells #[.int .i64 p.ak,.int .i64 (pn:Int),.int .i64 pq] 72));obtain⟨bq,hbq⟩:=Zn W'.heap.size;have FP:=zq (show dB w R1 ((b9, 31,V'.cells N)::(bq, 72,#[.int .i64 p.ak,.int .i64 (pn:Int),.int .i64 pq])::[(b0, 31,C),(b0+1, 31,aZ)]) V' { N with au:=PS,aJ:=KL } W4 from by rw[hW4,hbq];exact FI.o.add1 _ _);rw[<-hW4,<-hbq];clear hW4 hbq q0 q1 q2 FI;have hal:=(HH.o.below FP.o.at_.low).af;rw[E3.o] at hal;have y3:W4.cell? ⟨b0,3,none⟩=some (.slice (some ⟨bi0,oi0,none⟩) n3 c3):=FP.o.at_.cell 2 rfl 3 (by rw[EC.o,N3.o,<-E3.o];rfl);have q1:W4.cell? ⟨bq,1,none⟩=some (.int .i64 (pn:Int)):=FP.o.at_.cell 1 rfl 1 rfl;have q2:W4.cell? ⟨bq,2,none⟩=some (.int .i64 pq):=FP.o.at_.cell 1 rfl 2 rfl;have i1:W4.cell? ⟨bi0,oi0+pn*7+1,none⟩=some (.int .i64 i.under):=hal.near LI.o (j:=1) rfl;have k0:(0:Int)<=(pn:Int):=by omega
  have k1:(pn:Int)<(n3:Int):=by have:=HPN.o.2;have:=N3.o;omega
  clear hal;by_cases hu:i.under=(kk:Int);rotate_left
  ·have qq:(i.under==(kk:Int))=false:=by rw[beq_eq_false_iff_ne];exact hu
   have OV:=zq (show L.over (kk:Int) (pn:Int)=false from by unfold aH.over;rw[<-HI.o];exact decide_eq_false hu);have SJ:=zq (show SO[j]?=some p from by rw[ESO.o,jK HP.o,HPN.o.1,OV.o,if_neg (by decide)]);have IG2:=zq (show dY L (kk:Int) num den (L.aJ.drop (j+1))=dY L (kk:Int) num den L.aJ from by rw[<-LEJ.o];simp only[dY,HPN.o.1,OV.o,if_neg (show ¬ (false=true) from by decide)]);have dd:decide (0<pq)=true:=decide_eq_true (by have:=HPQ.o;have:=PQ.o;omega);obtain⟨ap,cp,ep⟩:=FP.o.own.led.aJ.form;obtain⟨np,hnp⟩:=Zn (({ N with au:=PS,aJ:=KL }:aH).aJ.length);rw[<-hnp] at ep;obtain⟨v',w3,hrun,ho,hm,hbk⟩:=sJ W4 R1 V'.aJ KL FP.o.own.aJ FP.o.rb p #[.int .i64 p.ak,.int .i64 (pn:Int),.int .i64 pq] (by show _=[Value.int .i64 p.ak,.int .i64 p.instr,.int .i64 p.qty];rw[HPN.o.1,<-PQ.o]) (by have:=LK.o;omega);obtain⟨a',c',hv',_⟩:=ho.form;have FN:=zq (FP.o.Dl hm ho hbk);have hnb:¬ V'.aJ.ownBlock=some b9:=FP.o.uq (b9, 31,V'.cells N) (by simp) V'.aJ (by simp[aB.rows]);have y5:W4.cell? ⟨b9,8,none⟩=some (.slice ap np cp):=by rw[<-ep];exact FP.o.at_.cell 0 rfl 8 rfl
   have y5':w3.cell? ⟨b9,8,none⟩=some (.slice ap np cp):=hm.cell y5 hnb;have z5':w3.frozen? ⟨b9,8,none⟩=false:=by
    have g:=hm.heap (FP.o.at_.get 0 rfl) hnb;unfold World.frozen?;simp[g]
   obtain⟨n',hn'⟩:∃ n',n'=(KL++[p]).length:=⟨_,rfl⟩;rw[<-hn'] at hv';subst hv';rw[ep] at hrun;have RUN:=zq hrun;have NX:=zq (show dB w R1 ((b9, 31,({ V' with aJ:=.slice a' n' c' }:aB).cells N)::[(b0, 31,C),(b0+1, 31,aZ)]) { V' with aJ:=.slice a' n' c' } { N with au:=PS,aJ:=(SO.take (j+1)).filter fun p=>decide (0<p.qty) } (w3.setCell ⟨b9,8,none⟩ (.slice a' n' c')) from by
    rw[keep_next SJ.o,if_pos (by have:=HPQ.o;simp;omega),<-EK.o];exact FN.o.drop1)
   have p0:W4.cell? ⟨bq,0,none⟩=some (.int .i64 p.ak):=FP.o.at_.cell 1 rfl 0 rfl;clear hrun ho hm hbk hn' hnp ep hnb FN hu
   go_wp2_with (at_builtin;refine wpList_append_run rfl (.tmp 243) (.tmp 245) 29 rfl rfl rfl RUN.o ?_)
   go_roundw
   case rel=>exact⟨j+1,by have:=LT.o;omega,by go_num,_,rfl,zq ⟨_,NX.o,IG2.o⟩⟩
   case measure=>have:=LT.o;simp[intOf];omega
  have qq:(i.under==(kk:Int))=true:=by simp[hu]
  have OV:=zq (show L.over (kk:Int) (pn:Int)=true from by unfold aH.over;rw[<-HI.o];exact decide_eq_true hu);obtain⟨sq,e2,hsq⟩:∃ x e,bY num den pq=(x,e):=⟨_,_,rfl⟩;have HSQ:=zq hsq;have CQ:=zq (fun W=>rW pq num den W);rw[hsq] at CQ;have LE2:=zq (show (if e2=0 then dY L (kk:Int) num den (L.aJ.drop (j+1)) else e2)=dY L (kk:Int) num den L.aJ from by
   rw[<-LEJ.o];simp only[dY,HPN.o.1,OV.o,if_pos];rw[<-PQ.o,hsq])
  clear hu hsq
  go_upto_region 39 with (fail)
  clear y3 q1 q2 i1;have q2:W4.cell? ⟨bq,2,none⟩=some (.int .i64 pq):=FP.o.at_.cell 1 rfl 2 rfl
  go_wp2_with fail
  refine (CQ.o _).mono ?_;rintro e w6 ⟨⟨sx,rfl,hxe⟩,hb⟩;have XE:=zq hxe;have F6:=zq (FP.o.go hb);clear hb hxe q2 CQ
  try go_simp
  have q2:w6.cell? ⟨bq,2,none⟩=some (.int .i64 pq):=F6.o.at_.cell 1 rfl 2 rfl;have z2:=F6.o.at_.free 1 rfl 2
  go_upto_region 40 with (fail)
  have F7:=zq (show dB w R1 ((b9, 31,V'.cells N)::(bq, 72,#[.int .i64 p.ak,.int .i64 (pn:Int),.int .i64 sx])::[(b0, 31,C),(b0+1, 31,aZ)]) V' { N with au:=PS,aJ:=KL } (w6.setCell ⟨bq,2,none⟩ (.int .i64 sx)) from F6.o.cell 1 rfl 2 (.int .i64 sx));obtain⟨W7,hW7⟩:=Zn (w6.setCell ⟨bq,2,none⟩ (.int .i64 sx));rw[<-hW7] at F7;rw[<-hW7];clear hW7 q2 z2 F6;by_cases hz:e2=0;rotate_left
  ·have hz':(e2 != 0)=true:=by rw[bne_iff_ne];exact hz
   have WHY:=zq (show jM L (cO L (kk:Int) num den)=(L0,0,e2) from by
    have h:=LE2.o;rw[if_neg hz] at h;rw[ES2.o,<-h,if_neg hz,jk HG.o hz];rfl)
   have XX:=zq (show At w W7 [(b0, 31,C),(b0+1, 31,aZ)] from F7.o.at_.sub ((List.sublist_cons_self _ _).trans (List.sublist_cons_self _ _)));clear hz
   go_wp2_with fail
   refine (fU e2 _).mono ?_;rintro e w9 ⟨rfl,hb⟩;have XN:=zq (XX.o.go hb);clear hb
   go_wp2_with (refine aW (cs:=aZ) (XN.o.get 1 rfl) bG bG rfl rfl rfl rfl ?_)
   refine bodyPost_ret (bZ (cs:=aZ) rfl _ _ (setRow_heap _ _ _ _ _ _ (XN.o.get 1 rfl)) bG rfl) rfl (by first|exact fB XN.o (k:=1) rfl (WHY.o)|simpa using fB XN.o (k:=1) rfl (WHY.o))
  subst hz;have IG2:=zq (show dY L (kk:Int) num den (L.aJ.drop (j+1))=dY L (kk:Int) num den L.aJ from by have h:=LE2.o;rw[if_pos rfl] at h;exact h);have ex:sx=sq:=XE.o rfl;subst ex;have SJ:=zq (show SO[j]?=some { p with qty:=sx } from by rw[ESO.o,jK HP.o,HPN.o.1,if_pos OV.o,<-PQ.o,HSQ.o]);have q2:W7.cell? ⟨bq,2,none⟩=some (.int .i64 sx):=F7.o.at_.cell 1 rfl 2 rfl;by_cases hs:0<sx;rotate_left
  ·have dd:decide (0<sx)=false:=decide_eq_false hs;have NX:=zq (show dB w R1 ((b9, 31,V'.cells N)::[(b0, 31,C),(b0+1, 31,aZ)]) V' { N with au:=PS,aJ:=(SO.take (j+1)).filter fun p=>decide (0<p.qty) } W7 from by
    rw[keep_next SJ.o,if_neg (by simpa using hs),List.append_nil,<-EK.o];exact F7.o.drop1)
   clear hs
   go_wp2_with fail
   go_roundw
   case rel=>exact⟨j+1,by have:=LT.o;omega,by go_num,_,rfl,zq ⟨_,NX.o,IG2.o⟩⟩
   case measure=>have:=LT.o;simp[intOf];omega
  have dd:decide (0<sx)=true:=decide_eq_true hs;have HS0:=zq hs;obtain⟨ap,cp,ep⟩:=F7.o.own.led.aJ.form;obtain⟨np,hnp⟩:=Zn (({ N with au:=PS,aJ:=KL }:aH).aJ.length);rw[<-hnp] at ep;obtain⟨v',w3,hrun,ho,hm,hbk⟩:=sJ W7 R1 V'.aJ KL F7.o.own.aJ F7.o.rb { p with qty:=sx } #[.int .i64 p.ak,.int .i64 (pn:Int),.int .i64 sx] (by show _=[Value.int .i64 p.ak,.int .i64 p.instr,.int .i64 sx];rw[HPN.o.1]) (by have:=LK.o;omega);obtain⟨a',c',hv',_⟩:=ho.form;have FN:=zq (F7.o.Dl hm ho hbk);have hnb:¬ V'.aJ.ownBlock=some b9:=F7.o.uq (b9, 31,V'.cells N) (by simp) V'.aJ (by simp[aB.rows]);have y5:W7.cell? ⟨b9,8,none⟩=some (.slice ap np cp):=by rw[<-ep];exact F7.o.at_.cell 0 rfl 8 rfl
  have y5':w3.cell? ⟨b9,8,none⟩=some (.slice ap np cp):=hm.cell y5 hnb;have z5':w3.frozen? ⟨b9,8,none⟩=false:=by
   have g:=hm.heap (F7.o.at_.get 0 rfl) hnb;unfold World.frozen?;simp[g]
  obtain⟨n',hn'⟩:∃ n',n'=(KL++[{ p with qty:=sx }]).length:=⟨_,rfl⟩;rw[<-hn'] at hv';subst hv';rw[ep] at hrun;have RUN:=zq hrun;have NX:=zq (show dB w R1 ((b9, 31,({ V' with aJ:=.slice a' n' c' }:aB).cells N)::[(b0, 31,C),(b0+1, 31,aZ)]) { V' with aJ:=.slice a' n' c' } { N with au:=PS,aJ:=(SO.take (j+1)).filter fun p=>decide (0<p.qty) } (w3.setCell ⟨b9,8,none⟩ (.slice a' n' c')) from by
   rw[keep_next SJ.o,if_pos (by simpa using HS0.o),<-EK.o];exact FN.o.drop1)
  have p0:W7.cell? ⟨bq,0,none⟩=some (.int .i64 p.ak):=F7.o.at_.cell 1 rfl 0 rfl;have p1:W7.cell? ⟨bq,1,none⟩=some (.int .i64 (pn:Int)):=F7.o.at_.cell 1 rfl 1 rfl;clear hrun ho hm hbk hn' hnp ep hnb FN hs
  go_wp2_with (at_builtin;refine wpList_append_run rfl (.tmp 243) (.tmp 245) 29 rfl rfl rfl RUN.o ?_)
  go_roundw
  case rel=>exact⟨j+1,by have:=LT.o;omega,by go_num,_,rfl,zq ⟨_,NX.o,IG2.o⟩⟩
  case measure=>have:=LT.o;simp[intOf];omega
 have hlt':(j:Int)<(n5:Int):=by omega
 have n64:n5<=64:=by rw[N5.o];exact HG.o.au.len
 have LT:=zq hlt;obtain⟨p,hp⟩:∃ p,L.au[j]?=some p:=⟨_,Zg (by rw[<-N5.o];exact hlt)⟩;have HP:=zq hp;have HW:=zq (HH.o.below IV.o.jl.at_.low);obtain⟨bp,op,cp,ep,hc⟩:=HW.o.au.place hp;have ea:a5=some ⟨bp,op,none⟩:=by have:=E5.o;rw[ep] at this;injection this with h _ _;exact h.symm
 obtain⟨p2,p3,p4,p5,p6,p7,p8⟩:=HG.o.au.all p (List.mem_of_getElem? hp);obtain⟨pa,hpa⟩:∃ x:Nat,p.ak=x:=⟨p.ak.toNat,by omega⟩;obtain⟨pn,hpn⟩:∃ x:Nat,p.instr=x:=⟨p.instr.toNat,by omega⟩;have HPA:=zq (And.intro hpa (show 2<=pa/\pa<L.ai.length from ⟨by omega,by omega⟩));have HPN:=zq (And.intro hpn (show pn<L.af.length from by omega));have HPQ:=zq p6;have CASH:=zq IV.o.dI;obtain⟨i,hi⟩:=Zn (L.ins (pn:Int));have HI:=zq hi;have LI:=zq (show L.af[pn]?=some i from by rw[hi];exact aH.jE HPN.o.2);obtain⟨bi0,oi0,ci0,ei0,hci⟩:=HW.o.af.place LI.o;have ea3:a3=some ⟨bi0,oi0,none⟩:=by have:=E3.o;rw[ei0] at this;injection this with h _ _;exact h.symm
 have q0:W'.cell? ⟨bp,op+j*3,none⟩=some (.int .i64 (pa:Int)):=by have:=hc 0 _ rfl;rw[<-hpa];simpa using this
 have q1:W'.cell? ⟨bp,op+j*3+1,none⟩=some (.int .i64 (pn:Int)):=by rw[<-hpn];exact hc 1 _ rfl
 have q2:=hc 2 _ rfl;subst ea;subst ea3;have SFp:=zq (SF.o p);clear hp hc ep hlt hj p2 p3 p4 p5 p6 p7 p8 hpa hpn ei0 hci HW;obtain⟨pq,hpq⟩:=Zn p.qty;have PQ:=zq hpq;rw[<-hpq] at q2;rw[HPN.o.1,<-hpq,<-hi] at SFp;clear hpq hi;obtain⟨KL,hKL⟩:∃ KL,KL=(S.take j).filter fun p=>decide (p.qty≠0):=⟨_,rfl⟩
 have EK:=zq hKL;have LK:=zq (show KL.length<=j/\KL.length+1<=1000 from by
  have h1:=List.length_filter_le (fun p:Pos=>decide (p.qty≠0)) (S.take j);have h2:=List.length_take_le j S;have h3:=LT.o;rw[<-hKL] at h1;omega)
 have FI:=zq (show dB w R1 ((b9, 31,V'.cells N)::[(b0, 31,C),(b0+1, 31,aZ)]) V' { N with au:=KL } W' from by rw[hKL];exact IV.o.jl);clear hKL
 go_upto_region 14 with (fail)
 obtain⟨W4,hW4⟩:=Zn (W'.alloc (.cells #[.int .i64 (pa:Int),.int .i64 (pn:Int),.int .i64 pq] 50));obtain⟨bq,hbq⟩:=Zn W'.heap.size;have FP:=zq (show dB w R1 ((b9, 31,V'.cells N)::(bq, 50,#[.int .i64 (pa:Int),.int .i64 (pn:Int),.int .i64 pq])::[(b0, 31,C),(b0+1, 31,aZ)]) V' { N with au:=KL } W4 from by rw[hW4,hbq];exact FI.o.add1 _ _);rw[<-hW4,<-hbq];clear hW4 hbq q0 q1 q2 FI;have hal:=(HH.o.below FP.o.at_.low).af;rw[E3.o] at hal;have y3:W4.cell? ⟨b0,3,none⟩=some (.slice (some ⟨bi0,oi0,none⟩) n3 c3):=FP.o.at_.cell 2 rfl 3 (by rw[EC.o,N3.o,<-E3.o];rfl);have q1:W4.cell? ⟨bq,1,none⟩=some (.int .i64 (pn:Int)):=FP.o.at_.cell 1 rfl 1 rfl;have i1:W4.cell? ⟨bi0,oi0+pn*7+1,none⟩=some (.int .i64 i.under):=hal.near LI.o (j:=1) rfl;have k0:(0:Int)<=(pn:Int):=by omega
 have k1:(pn:Int)<(n3:Int):=by have:=HPN.o.2;have:=N3.o;omega
 clear hal;by_cases hu:i.under=(kk:Int);rotate_left
 ·have qq:(i.under != (kk:Int))=true:=by rw[bne_iff_ne];exact hu
  have OV:=zq (show L.over (kk:Int) (pn:Int)=false from by unfold aH.over;rw[<-HI.o];exact decide_eq_false hu);have SJ:=zq (show S[j]?=some p from by rw[EQS.o,jK HP.o,HPN.o.1,OV.o,if_neg (by decide)]);have SP:=zq (show f p=none from by rw[SFp.o,OV.o,if_neg (by decide)]);obtain⟨ap,cp,ep⟩:=FP.o.own.led.au.form;obtain⟨np,hnp⟩:=Zn (({ N with au:=KL }:aH).au.length);rw[<-hnp] at ep;obtain⟨v',w3,hrun,ho,hm,hbk⟩:=wR W4 R1 V'.au KL FP.o.own.au FP.o.rb p #[.int .i64 (pa:Int),.int .i64 (pn:Int),.int .i64 pq] (by show _=[Value.int .i64 p.ak,.int .i64 p.instr,.int .i64 p.qty];rw[HPA.o.1,HPN.o.1,<-PQ.o]) (by have:=LK.o.2;omega);obtain⟨a',c',hv',_⟩:=ho.form;have FN:=zq (FP.o.Dn hm ho hbk);have hnb:¬ V'.au.ownBlock=some b9:=FP.o.uq (b9, 31,V'.cells N) (by simp) V'.au (by simp[aB.rows]);have y5:W4.cell? ⟨b9,5,none⟩=some (.slice ap np cp):=by rw[<-ep];exact FP.o.at_.cell 0 rfl 5 rfl
  have y5':w3.cell? ⟨b9,5,none⟩=some (.slice ap np cp):=hm.cell y5 hnb;have z5':w3.frozen? ⟨b9,5,none⟩=false:=by
   have g:=hm.heap (FP.o.at_.get 0 rfl) hnb;unfold World.frozen?;simp[g]
  have p0:W4.cell? ⟨bq,0,none⟩=some (.int .i64 (pa:Int)):=FP.o.at_.cell 1 rfl 0 rfl;have p2:W4.cell? ⟨bq,2,none⟩=some (.int .i64 pq):=FP.o.at_.cell 1 rfl 2 rfl;obtain⟨n',hn'⟩:∃ n',n'=(KL++[p]).length:=⟨_,rfl⟩;rw[<-hn'] at hv';subst hv';rw[ep] at hrun;have RUN:=zq hrun;have NX:=zq (show Ox w R1 b9 [(b0, 31,C),(b0+1, 31,aZ)] L SL S f c (j+1) { V' with au:=.slice a' n' c' } N (w3.setCell ⟨b9,5,none⟩ (.slice a' n' c')) from by
   refine⟨?_,by rw[<-IV.o.go,drop_at HP.o,oQ SP.o],IV.o.dI⟩;rw[keep_next SJ.o,if_pos (by simpa using HPQ.o),<-EK.o];exact FN.o.drop1)
  clear hrun ho hm hbk hn' hnp ep hnb FN;clear hu
  go_wp2_with (at_builtin;refine wpList_append_run rfl (.tmp 95) (.tmp 97) 26 rfl rfl rfl RUN.o ?_)
  go_roundw
  case rel=>exact⟨j+1,by have:=LT.o;omega,by go_num,_,rfl,zq ⟨_,N,NX.o⟩⟩
  case measure=>have:=LT.o;simp[intOf];omega
 have qq:(i.under != (kk:Int))=false:=by simp[hu]
 have OV:=zq (show L.over (kk:Int) (pn:Int)=true from by unfold aH.over;rw[<-HI.o];exact decide_eq_true hu);have SP:=zq (show f p=some (mr num den i pq) from by rw[SFp.o,if_pos OV.o]);obtain⟨sq,e2,hsq⟩:∃ x e,bY num den pq=(x,e):=⟨_,_,rfl⟩;have HSQ:=zq hsq;obtain⟨mk,hmk⟩:=Zn ((eU num den i.mark).1);obtain⟨y1,e1,hy1⟩:∃ x e,dZ i pq i.mark=(x,e):=⟨_,_,rfl⟩;obtain⟨y3',e3,hy3⟩:∃ x e,dZ i sq mk=(x,e):=⟨_,_,rfl⟩;obtain⟨x,e4,hy4⟩:∃ x e,fK y1 y3'=(x,e):=⟨_,_,rfl⟩;have LO:=zq (show mr num den i pq=if e1=0 then (if e2=0 then (if e3=0 then (x,e4) else (0,e3)) else (0,e2)) else (0,e1) from by
  unfold mr;rw[hy1,hsq,<-hmk,hy3,hy4])
 have YI:=zq (show e4=0->I64 x from fun h=>by subst h;exact IQ hy4);have CW:=zq (fun W (hb:Below w.heap.size w W)=>ug W V L (HH.o.below hb) pn HPN.o.2 pq i.mark);rw[<-HI.o,hy1] at CW;unfold aB.val at CW;rw[<-EC.o] at CW;have CQ:=zq (fun W=>rW pq num den W);rw[hsq] at CQ;have SI:=zq (show N.af[pn]?=some (kS num den i) from by
  rw[CASH.o.af,ESL.o];have h:=lM (u:=(kk:Int)) (num:=num) (den:=den) LI.o;rw[if_pos hu] at h;exact h)
 have NLN:=zq (show N.af.length=n3 from by rw[CASH.o.af,ESL.o,N3.o];exact fV _ _ _ _);have CW2:=zq (fun W (F:dB w R1 ((b9, 31,V'.cells N)::(bq, 50,#[.int .i64 (pa:Int),.int .i64 (pn:Int),.int .i64 pq])::[(b0, 31,C),(b0+1, 31,aZ)]) V' { N with au:=KL } W)=>ug W V' { N with au:=KL } F.own.led pn (by show pn<N.af.length;rw[NLN.o];have:=HPN.o.2;have:=N3.o;omega) sq mk);rw[show aH.ins { N with au:=KL } (pn:Int)=kS num den i from by
  have h:=aH.jE (L:=N) (k:=pn) (by rw[NLN.o];have:=HPN.o.2;have:=N3.o;omega);rw[SI.o] at h;exact (Option.some.inj h).symm,show dZ (kS num den i) sq mk=(y3',e3) from hy3] at CW2
 unfold aB.val at CW2;have HMK:=zq hmk;have CS:=zq (fun W=>qK y1 y3' W);rw[hy4] at CS;have BAD:=zq (show ∀ er,er≠0->dD f c 1 L.au SL=(aH.none,er)->jM L (cO L (kk:Int) num den)=(L0,0,er) from fun er he hp=>by
  rw[ES.o,hp,if_neg he,jk HG.o he];rfl)
 have LVN:=zq (iC FP.o.own.led);clear hu hsq hmk hy1 hy3 hy4 SFp
 go_upto_region 16 with (fail)
 have FD:=zq FP.o.drew;obtain⟨WD,hWD⟩:=Zn W4.drew;rw[<-hWD] at FD;have hal:=(HH.o.below FD.o.at_.low).af;rw[E3.o] at hal;clear y3 q1 i1;refine aI.wz [12] [] (.step 0 (.step 1 (.step 2 (.step 3 (.step 4 (.step 5 (.step 6 (.step 7 (.step 8 (.step 9 (.step 10 (.step 11 (.step 12 (.step 13 (.step 14 (.step 15 (.step 16 (.step 17 .leaf)))))))))))))))))) (by kernel_rfl) (by kernel_rfl) ?_;rw[<-hWD];clear hWD;have y3:WD.cell? ⟨b0,3,none⟩=some (.slice (some ⟨bi0,oi0,none⟩) n3 c3):=FD.o.at_.cell 2 rfl 3 (by rw[EC.o,N3.o,<-E3.o];rfl);have q1:WD.cell? ⟨bq,1,none⟩=some (.int .i64 (pn:Int)):=FD.o.at_.cell 1 rfl 1 rfl;have q2:WD.cell? ⟨bq,2,none⟩=some (.int .i64 pq):=FD.o.at_.cell 1 rfl 2 rfl;have i6:WD.cell? ⟨bi0,oi0+pn*7+6,none⟩=some (.int .i64 i.mark):=hal.near LI.o (j:=6) rfl;refine aI.aC [0,1,2,3,4,5,6,7,8,9,10,11] (by kernel_rfl) ?_
 simp only[ay,nth]
 refine oh (cs:=C) (fun W hW=>by rw[hW];exact FD.o.at_.get 2 rfl) LC.o rfl rfl rfl ?_;go_simp
 repeat (go_big_quiet_step (fail))
 refine wpQuiet_nil ?_;refine aI.aK (by kernel_rfl) rfl (fun K hK=>?_)
 simp only[ay,nth]
 refine aA ?_;go_simp;refine (CW.o _ FD.o.at_.low).mono ?_;rintro e w5 ⟨rfl,hb⟩;have F5:=zq (FD.o.go hb);clear hb y3 q1 q2 i6 CW hal;go_simp;refine hK _ _ (fun h=>by cases h) ?_;clear hK;refine aI.aC [13,14,15,16,17] (by kernel_rfl) ?_
 simp only[ay,nth]
 repeat (go_big_quiet_step (fail))
 refine wpQuiet_nil ?_;refine aI.bH ?_;by_cases hz:e1=0;rotate_left
 ·have NE:=zq hz;have hz':(e1 != 0)=true:=by rw[bne_iff_ne];exact hz
  have WHY:=zq (BAD.o e1 hz (by rw[<-IV.o.go,drop_at HP.o,lN (x:=(0,e1)) (by rw[SP.o,LO.o,if_neg hz]) hz]));have XX:=zq (show At w w5 [(b0, 31,C),(b0+1, 31,aZ)] from F5.o.at_.sub ((List.sublist_cons_self _ _).trans (List.sublist_cons_self _ _)));clear hz
  go_wp2_with fail
  refine (fU e1 _).mono ?_;rintro e w9 ⟨rfl,hb⟩;have XN:=zq (XX.o.go hb);clear hb
  go_wp2_with (refine aW (cs:=aZ) (XN.o.get 1 rfl) bG bG rfl rfl rfl rfl ?_)
  refine bodyPost_ret (bZ (cs:=aZ) rfl _ _ (setRow_heap _ _ _ _ _ _ (XN.o.get 1 rfl)) bG rfl) rfl (by first|exact fB XN.o (k:=1) rfl (WHY.o)|simpa using fB XN.o (k:=1) rfl (WHY.o))
 subst hz;have LO2:=zq (LO.o.trans (if_pos rfl));clear LO;have q2:w5.cell? ⟨bq,2,none⟩=some (.int .i64 pq):=F5.o.at_.cell 1 rfl 2 rfl
 go_wp2_with fail
 refine (CQ.o _).mono ?_;rintro e w6 ⟨⟨sx,rfl,hxe⟩,hb⟩;have XE:=zq hxe;have F6:=zq (F5.o.go hb);clear hb hxe q2 CQ
 try go_simp
 by_cases hz:e2=0;rotate_left
 ·have NE:=zq hz;have hz':(e2 != 0)=true:=by rw[bne_iff_ne];exact hz
  have WHY:=zq (BAD.o e2 hz (by rw[<-IV.o.go,drop_at HP.o,lN (x:=(0,e2)) (by rw[SP.o,LO2.o,if_neg hz]) hz]));have XX:=zq (show At w w6 [(b0, 31,C),(b0+1, 31,aZ)] from F6.o.at_.sub ((List.sublist_cons_self _ _).trans (List.sublist_cons_self _ _)));clear hz
  go_wp2_with fail
  refine (fU e2 _).mono ?_;rintro e w9 ⟨rfl,hb⟩;have XN:=zq (XX.o.go hb);clear hb
  go_wp2_with (refine aW (cs:=aZ) (XN.o.get 1 rfl) bG bG rfl rfl rfl rfl ?_)
  refine bodyPost_ret (bZ (cs:=aZ) rfl _ _ (setRow_heap _ _ _ _ _ _ (XN.o.get 1 rfl)) bG rfl) rfl (by first|exact fB XN.o (k:=1) rfl (WHY.o)|simpa using fB XN.o (k:=1) rfl (WHY.o))
 subst hz;have LO3:=zq (LO2.o.trans (if_pos rfl));have ex:sx=sq:=XE.o rfl;subst ex;clear LO2 F5
 go_upto_region 22 with (fail)
 have FE:=zq F6.o.drew;obtain⟨WE,hWE⟩:=Zn w6.drew;rw[<-hWE] at FE;obtain⟨g,cg,hv,_,_,hcell,hzz⟩:=FE.o.own.af.slot dU (by decide) SI.o;refine aI.wz [11] [] (.step 0 (.step 1 (.step 2 (.step 3 (.step 4 (.step 5 (.step 6 (.step 7 (.step 8 (.step 9 (.step 10 (.step 11 (.step 12 (.step 13 (.step 14 (.step 15 (.step 16 .leaf))))))))))))))))) (by kernel_rfl) (by kernel_rfl) ?_;rw[<-hWE];clear hWE;have y3:WE.cell? ⟨b9,3,none⟩=some (.slice (some ⟨g,0,none⟩) n3 cg):=FE.o.at_.cell 0 rfl 3 (by rw[<-NLN.o,<-hv];rfl);have q1:WE.cell? ⟨bq,1,none⟩=some (.int .i64 (pn:Int)):=FE.o.at_.cell 1 rfl 1 rfl;have g6:WE.cell? ⟨g,pn*7+6,none⟩=some (.int .i64 mk):=by rw[HMK.o];exact hcell 6 _ rfl
 clear hv hcell hzz;refine aI.aC [0,1,2,3,4,5,6,7,8,9,10] (by kernel_rfl) ?_
 simp only[ay,nth]
 refine oh (cs:=V'.cells N) (fun W hW=>by rw[hW];exact FE.o.at_.get 0 rfl) LVN.o rfl rfl rfl ?_;go_simp
 repeat (go_big_quiet_step (fail))
 refine wpQuiet_nil ?_;refine aI.aK (by kernel_rfl) rfl (fun K hK=>?_)
 simp only[ay,nth]
 refine aA ?_;go_simp;refine (CW2.o _ FE.o).mono ?_;rintro e w7 ⟨rfl,hb⟩;have F7:=zq (FE.o.go hb);clear hb y3 q1 g6 CW2;go_simp;refine hK _ _ (fun h=>by cases h) ?_;clear hK;refine aI.aC [12,13,14,15,16] (by kernel_rfl) ?_
 simp only[ay,nth]
 repeat (go_big_quiet_step (fail))
 refine wpQuiet_nil ?_;refine aI.bH ?_;by_cases hz:e3=0;rotate_left
 ·have NE:=zq hz;have hz':(e3 != 0)=true:=by rw[bne_iff_ne];exact hz
  have WHY:=zq (BAD.o e3 hz (by rw[<-IV.o.go,drop_at HP.o,lN (x:=(0,e3)) (by rw[SP.o,LO3.o,if_neg hz]) hz]));have XX:=zq (show At w w7 [(b0, 31,C),(b0+1, 31,aZ)] from F7.o.at_.sub ((List.sublist_cons_self _ _).trans (List.sublist_cons_self _ _)));clear hz
  go_wp2_with fail
  refine (fU e3 _).mono ?_;rintro e w9 ⟨rfl,hb⟩;have XN:=zq (XX.o.go hb);clear hb
  go_wp2_with (refine aW (cs:=aZ) (XN.o.get 1 rfl) bG bG rfl rfl rfl rfl ?_)
  refine bodyPost_ret (bZ (cs:=aZ) rfl _ _ (setRow_heap _ _ _ _ _ _ (XN.o.get 1 rfl)) bG rfl) rfl (by first|exact fB XN.o (k:=1) rfl (WHY.o)|simpa using fB XN.o (k:=1) rfl (WHY.o))
 subst hz;have LO4:=zq (LO3.o.trans (if_pos rfl));clear LO3 F6
 go_wp2_with fail
 refine (CS.o _).mono ?_;rintro e w8 ⟨rfl,rfl⟩;clear CS;by_cases hz:e4=0;rotate_left
 ·have NE:=zq hz;have hz':(e4 != 0)=true:=by rw[bne_iff_ne];exact hz
  have WHY:=zq (BAD.o e4 hz (by rw[<-IV.o.go,drop_at HP.o,lN (x:=(x,e4)) (by rw[SP.o,LO4.o]) hz]));have XX:=zq (show At w w7 [(b0, 31,C),(b0+1, 31,aZ)] from F7.o.at_.sub ((List.sublist_cons_self _ _).trans (List.sublist_cons_self _ _)));clear hz
  go_wp2_with fail
  refine (fU e4 _).mono ?_;rintro e w9 ⟨rfl,hb⟩;have XN:=zq (XX.o.go hb);clear hb
  go_wp2_with (refine aW (cs:=aZ) (XN.o.get 1 rfl) bG bG rfl rfl rfl rfl ?_)
  refine bodyPost_ret (bZ (cs:=aZ) rfl _ _ (setRow_heap _ _ _ _ _ _ (XN.o.get 1 rfl)) bG rfl) rfl (by first|exact fB XN.o (k:=1) rfl (WHY.o)|simpa using fB XN.o (k:=1) rfl (WHY.o))
 have YJ:=zq (YI.o hz);subst hz;have SP2:=zq (SP.o.trans (by rw[LO4.o]));clear LO4 YI SP;have MO:=zq (show aH.gZ { N with au:=KL } from (CASH.o.pJ SG.o.pJ).less (by rw[CASH.o.au,ESL.o];show KL.length<=L.au.length;have:=LK.o.1;have:=LT.o;have:=N5.o;omega));obtain⟨cu,hcu⟩:∃ cu:Nat,L.dG pn=cu/\cu<L.aQ.length:=HG.o.pJ.nK HPN.o.2;have HCU:=zq hcu;have NLA:=zq (show N.ai.length=L.ai.length/\N.aQ=L.aQ from ⟨by rw[CASH.o.len,ESL.o];rfl,by rw[CASH.o.aQ,ESL.o];rfl⟩);have TWO:=zq HG.o.two;obtain⟨MX,hMX⟩:∃ l:aH,l={ N with au:=KL }:=⟨_,rfl⟩;have EMX:=zq hMX;have CX:=zq (show V'.cells N=V'.cells MX from by rw[hMX];rfl);rw[<-hMX] at F7 MO;rw[CX.o] at F7;have CCU:=zq (fun W (F:dB w R1 ((b9, 31,V'.cells MX)::(bq, 50,#[.int .i64 (pa:Int),.int .i64 (pn:Int),.int .i64 pq])::[(b0, 31,C),(b0+1, 31,aZ)]) V' MX W)=>Gi W V L (HH.o.below F.at_.low) HG.o.pJ pn HPN.o.2);rw[HCU.o.1] at CCU;unfold aB.val at CCU;rw[<-EC.o] at CCU;have CPA:=zq (fun W (F:dB w R1 ((b9, 31,V'.cells MX)::(bq, 50,#[.int .i64 (pa:Int),.int .i64 (pn:Int),.int .i64 pq])::[(b0, 31,C),(b0+1, 31,aZ)]) V' MX W)=>Oe W V' MX F.own.led MO.o cu 1 pa (by rw[hMX];show cu<N.aQ.length;rw[NLA.o.2];exact HCU.o.2) (by rw[hMX];show 1<N.ai.length;rw[NLA.o.1];have:=TWO.o;omega) (by rw[hMX];show pa<N.ai.length;rw[NLA.o.1];exact HPA.o.2.2) x YJ.o)
 simp only[show ((1:Nat):Int)=1 from rfl] at CPA
 unfold aB.val at CPA;have PP:=zq (zB N KL (cu:Int) x 1 (pa:Int));rw[<-hMX] at PP;have EP:=zq (show fP N (cu:Int) x 1 (pa:Int)=fP N (c p) (x,(0:Int)).1 1 p.ak from by rw[EF.o,HPN.o.1,HCU.o.1,HPA.o.1]);obtain⟨pm,pe,hpp⟩:∃ m e,fP MX (cu:Int) x 1 (pa:Int)=(m,e):=⟨_,_,rfl⟩;rw[hpp] at CPA PP;have HPP:=zq hpp;clear hpp hcu hMX
 go_upto_region 28 with (fail)
 have FD:=zq F7.o.drew;obtain⟨WD,hWD⟩:=Zn w7.drew;rw[<-hWD] at FD;have LVM:=zq (iC FD.o.own.led);have CL:=zq (show ∀ W2,dB w R1 ((b9, 31,V'.cells MX)::(bq, 50,#[.int .i64 (pa:Int),.int .i64 (pn:Int),.int .i64 pq])::[(b0, 31,C),(b0+1, 31,aZ)]) V' MX W2->(fun W2:World=>W2.heap[b9]?=some (.cells (V'.cells MX) 31 (0,0))/\W2.cell? ⟨bq,0,none⟩=some (.int .i64 (pa:Int))) W2 from fun W2 F=>⟨F.at_.get 0 rfl,F.at_.cell 1 rfl 0 rfl⟩);have j0:∀ z:dh (fun W2:World=>W2.heap[b9]?=some (.cells (V'.cells MX) 31 (0,0))/\W2.cell? ⟨bq,0,none⟩=some (.int .i64 (pa:Int))),z.w.cell? ⟨bq,0,none⟩=some (.int .i64 (pa:Int)):=fun z=>z.ok.2
 haveI ne:Nonempty (dh (fun W2:World=>W2.heap[b9]?=some (.cells (V'.cells MX) 31 (0,0))/\W2.cell? ⟨bq,0,none⟩=some (.int .i64 (pa:Int)))):=⟨⟨WD,CL.o _ FD.o⟩⟩
 refine kN.aX (C:=fun k w'=>k=11\/∃ z:dh (fun W2:World=>W2.heap[b9]?=some (.cells (V'.cells MX) 31 (0,0))/\W2.cell? ⟨bq,0,none⟩=some (.int .i64 (pa:Int))),w'=z.w) [4,8,12] [0,5,6,7,11] (.step 0 (.step 1 (.step 2 (.step 3 (.step 5 (.step 6 (.step 7 (.step 4 (.step 8 (.step 9 (.step 10 (.step 11 (.step 12 (.step 13 .leaf)))))))))))))) (fun _ _ _=>False) (by kernel_rfl) (fun _ _ _ h=>h.elim) (by kernel_rfl) (fun _=>Or.inr ⟨⟨w7.drew,by rw[<-hWD];exact CL.o _ FD.o⟩,rfl⟩) ?_;rw[<-hWD];clear hWD;refine kN.bM (fun w'=>∃ z:dh (fun W2:World=>W2.heap[b9]?=some (.cells (V'.cells MX) 31 (0,0))/\W2.cell? ⟨bq,0,none⟩=some (.int .i64 (pa:Int))),w'=z.w) [0] (by kernel_rfl) (fun i hi w h=>h.resolve_left (by simp at hi;omega)) ?_
 simp only[ay,nth]
 refine oh (cs:=V'.cells MX) (fun W ⟨z,hz⟩=>by rw[hz];exact z.ok.1) LVM.o rfl rfl rfl ?_;refine wpQuiet_nil ?_;go_simp;have q1:WD.cell? ⟨bq,1,none⟩=some (.int .i64 (pn:Int)):=FD.o.at_.cell 1 rfl 1 rfl;refine kN.aC [1,2,3] (by kernel_rfl) ?_
 simp only[ay,nth]
 refine oh (cs:=C) (fun W hW=>by rw[hW];exact FD.o.at_.get 2 rfl) LC.o rfl rfl rfl ?_;go_simp
 repeat (go_big_quiet_step (fail))
 refine wpQuiet_nil ?_;clear q1;refine kN.bM (fun w'=>∃ z:dh (fun W2:World=>W2.heap[b9]?=some (.cells (V'.cells MX) 31 (0,0))/\W2.cell? ⟨bq,0,none⟩=some (.int .i64 (pa:Int))),w'=z.w) [5,6,7] (by kernel_rfl) (fun i hi w h=>h.resolve_left (by simp at hi;omega)) ?_
 simp only[ay,nth]
 repeat (go_big_quiet_step (fail))
 refine wpQuiet_nil ?_;clear j0;refine kN.aK (by kernel_rfl) rfl (fun K hK=>?_)
 simp only[ay,nth]
 refine aA ?_;go_simp;refine (CCU.o _ FD.o).mono ?_;rintro e w4 ⟨rfl,hb⟩;have F4:=zq (FD.o.go hb);clear hb;go_simp;refine hK _ _ (fun _ _=>Or.inr ⟨⟨_,CL.o _ F4.o⟩,rfl⟩) ?_;clear hK;refine kN.aK (by kernel_rfl) rfl (fun K hK=>?_)
 simp only[ay,nth]
 refine aA ?_;go_simp;refine (CPA.o _ F4.o).mono ?_;rintro e w5 ⟨hb,ho⟩;have B5:=zq hb;have F5:=zq (F4.o.go hb);clear hb;rcases ho with ⟨hz,U,rfl,own⟩|⟨hz,rfl⟩;rotate_left
 ·have HZ:=zq hz
  try go_simp
  refine hK _ _ (fun _ _=>Or.inr ⟨⟨_,CL.o _ F5.o⟩,rfl⟩) ?_;clear hK hz;refine kN.aC [9,10] (by kernel_rfl) ?_
  simp only[ay,nth]
  repeat (go_big_quiet_step (fail))
  refine wpQuiet_nil ?_;refine kN.bM (fun _=>True) [11] (by kernel_rfl) (fun _ _ _ _=>trivial) ?_
  simp only[ay,nth]
  repeat (go_big_quiet_step (fail))
  refine wpQuiet_nil ?_;refine kN.zJ (x:=11) (by kernel_rfl) rfl (by kernel_rfl) (fun K hK=>?_)
  simp only[ay,nth]
  refine oL (F5.o.at_.get 0 rfl) LVM.o bG rfl rfl rfl ?_;refine hK _ _ (Or.inl rfl) ?_;clear hK;go_simp;refine kN.aC [13] (by kernel_rfl) ?_
  simp only[ay,nth]
  repeat (go_big_quiet_step (fail))
  refine wpQuiet_nil ?_;refine kN.bH ?_;have XX:=zq (show At w (w5.setRow b9 aZ) [(b0, 31,C),(b0+1, 31,aZ)] from (F5.o.at_.setRow 0 rfl aZ).sub ((List.sublist_cons_self _ _).trans (List.sublist_cons_self _ _)));obtain⟨w6,hw6⟩:=Zn (w5.setRow b9 aZ);rw[<-hw6] at XX ⊢;clear hw6;have HZ1:=zq (show pe≠0 from HZ.o);have hz':(pe != 0)=true:=by rw[bne_iff_ne];exact HZ1.o
  have WHY:=zq (BAD.o pe HZ1.o (by
   have h2:(fP N (cu:Int) x 1 (pa:Int)).2=pe:=PP.o.1.symm;rw[<-IV.o.go,drop_at HP.o,rP SP2.o rfl (by rw[<-EP.o,h2];exact HZ1.o),<-EP.o,h2]))
  clear F4 F5 B5
  go_wp2_with fail
  refine (fU pe _).mono ?_;rintro e w9 ⟨rfl,hb⟩;have XN:=zq (XX.o.go hb);clear hb
  go_wp2_with (refine aW (cs:=aZ) (XN.o.get 1 rfl) bG bG rfl rfl rfl rfl ?_)
  refine bodyPost_ret (bZ (cs:=aZ) rfl _ _ (setRow_heap _ _ _ _ _ _ (XN.o.get 1 rfl)) bG rfl) rfl (by first|exact fB XN.o (k:=1) rfl (WHY.o)|simpa using fB XN.o (k:=1) rfl (WHY.o))
 have HZ:=zq hz;have LU:=zq (iC own.led);have OW:=zq own;unfold aB.val;clear hz own
 try go_simp
 refine hK _ _ (fun _ _=>Or.inr ⟨⟨_,CL.o _ F5.o⟩,rfl⟩) ?_;clear hK;refine kN.aC [9,10] (by kernel_rfl) ?_
 simp only[ay,nth]
 repeat (go_big_quiet_step (fail))
 refine wpQuiet_nil ?_;refine kN.bM (fun _=>True) [11] (by kernel_rfl) (fun _ _ _ _=>trivial) ?_
 simp only[ay,nth]
 repeat (go_big_quiet_step (fail))
 refine wpQuiet_nil ?_;refine kN.zJ (x:=11) (by kernel_rfl) rfl (by kernel_rfl) (fun K hK=>?_)
 simp only[ay,nth]
 refine oL (F5.o.at_.get 0 rfl) LVM.o LU.o rfl rfl rfl ?_;refine hK _ _ (Or.inl rfl) ?_;clear hK;go_simp;refine kN.aC [13] (by kernel_rfl) ?_
 simp only[ay,nth]
 repeat (go_big_quiet_step (fail))
 refine wpQuiet_nil ?_;refine kN.bH ?_;have F6:=zq (F4.o.swap B5.o OW.o)
 try simp only at HZ
 have Z0:=zq (show pe=0 from HZ.o);obtain⟨N2',hN2⟩:∃ l:aH,l=(fP N (cu:Int) x 1 (pa:Int)).1:=⟨_,rfl⟩;have ZP:=zq (show (fP N (cu:Int) x 1 (pa:Int)).2=0 from by rw[<-PP.o.1];exact Z0.o);have PMX:=zq (show pm={ N2' with au:=KL } from by have:=PP.o.2 ZP.o;rw[hN2];exact this);have EN2:=zq hN2;have CN2:=zq (show dW SL N2' from by
  rw[hN2];exact CASH.o.trans (kW ⟨by decide,by rw[NLA.o.1];have:=TWO.o;omega⟩ ⟨by omega,by rw[NLA.o.1];have:=HPA.o.2.2;omega⟩ ZP.o))
 have GO2:=zq (show dD f c 1 (L.au.drop (j+1)) N2'=dD f c 1 L.au SL from by
  rw[<-IV.o.go,drop_at HP.o,oP SP2.o rfl (by rw[<-EP.o];exact ZP.o),<-EP.o,hN2])
 have FU:=zq (show dB w R1 ((b9, 31,U.cells N2')::(bq, 50,#[.int .i64 (pa:Int),.int .i64 (pn:Int),.int .i64 pq])::[(b0, 31,C),(b0+1, 31,aZ)]) U { N2' with au:=KL } (w5.setRow b9 (U.cells pm)) from by
  have h:=F6.o;have e:U.cells pm=U.cells N2':=by rw[PMX.o];rfl
  rw[e,PMX.o] at h;rw[e];exact h)
 obtain⟨W7,hW7⟩:=Zn (w5.setRow b9 (U.cells pm));rw[<-hW7] at FU ⊢;have hz0:pe=0:=Z0.o;subst hz0;have SJ:=zq (show S[j]?=some { p with qty:=sx } from by rw[EQS.o,jK HP.o,HPN.o.1,if_pos OV.o,<-PQ.o,HSQ.o]);obtain⟨N,rfl⟩:∃ N',N'=N2':=⟨_,rfl⟩;clear hW7 F4 F5 F6 B5 OW LU HZ Z0 hN2;by_cases hq:sx=0
 ·have hq':(sx != 0)=false:=by simp[hq]
  have NX:=zq (show Ox w R1 b9 [(b0, 31,C),(b0+1, 31,aZ)] L SL S f c (j+1) U N W7 from by
   refine⟨?_,GO2.o,CN2.o⟩;rw[keep_next SJ.o,if_neg (by simpa using hq),List.append_nil,<-EK.o];exact FU.o.drop1)
  clear hq
  go_wp2_with fail
  go_roundw
  case rel=>exact⟨j+1,by have:=LT.o;omega,by go_num,_,rfl,zq ⟨U,N,NX.o⟩⟩
  case measure=>have:=LT.o;simp[intOf];omega
 have hq':(sx != 0)=true:=by rw[bne_iff_ne];exact hq
 have HSX:=zq hq;clear hq;obtain⟨ap,cp,ep⟩:=FU.o.own.led.au.form;obtain⟨np,hnp⟩:=Zn (({ N with au:=KL }:aH).au.length);rw[<-hnp] at ep;obtain⟨v',w3,hrun,ho,hm,hbk⟩:=wR W7 R1 U.au KL FU.o.own.au FU.o.rb { p with qty:=sx } #[.int .i64 (pa:Int),.int .i64 (pn:Int),.int .i64 sx] (by show _=[Value.int .i64 p.ak,.int .i64 p.instr,.int .i64 sx];rw[HPA.o.1,HPN.o.1]) (by have:=LK.o.2;omega);obtain⟨a',c',hv',_⟩:=ho.form;have FN:=zq (FU.o.Dn hm ho hbk);have hnb:¬ U.au.ownBlock=some b9:=FU.o.uq (b9, 31,U.cells N) (by simp) U.au (by simp[aB.rows]);have y5:W7.cell? ⟨b9,5,none⟩=some (.slice ap np cp):=by rw[<-ep];exact FU.o.at_.cell 0 rfl 5 rfl
 have y5':w3.cell? ⟨b9,5,none⟩=some (.slice ap np cp):=hm.cell y5 hnb;have z5':w3.frozen? ⟨b9,5,none⟩=false:=by
  have g:=hm.heap (FU.o.at_.get 0 rfl) hnb;unfold World.frozen?;simp[g]
 obtain⟨n',hn'⟩:∃ n',n'=(KL++[{ p with qty:=sx }]).length:=⟨_,rfl⟩;rw[<-hn'] at hv';subst hv';rw[ep] at hrun;have RUN:=zq hrun;have p0:W7.cell? ⟨bq,0,none⟩=some (.int .i64 (pa:Int)):=FU.o.at_.cell 1 rfl 0 rfl;have p1:W7.cell? ⟨bq,1,none⟩=some (.int .i64 (pn:Int)):=FU.o.at_.cell 1 rfl 1 rfl;have NX:=zq (show Ox w R1 b9 [(b0, 31,C),(b0+1, 31,aZ)] L SL S f c (j+1) { U with au:=.slice a' n' c' } N (w3.setCell ⟨b9,5,none⟩ (.slice a' n' c')) from by
  refine⟨?_,GO2.o,CN2.o⟩;rw[keep_next SJ.o,if_pos (by simpa using HSX.o),<-EK.o];exact FN.o.drop1)
 clear hrun ho hm hbk hn' hnp ep hnb FN
 go_wp2_with (at_builtin;refine wpList_append_run rfl (.tmp 195) (.tmp 202) 26 rfl rfl rfl RUN.o ?_)
 go_roundw
 case rel=>exact⟨j+1,by have:=LT.o;omega,by go_num,_,rfl,zq ⟨_,N,NX.o⟩⟩
 case measure=>have:=LT.o;simp[intOf];omega
end Go.Proofs.YtcepekniflaoaaaGreatDoor
