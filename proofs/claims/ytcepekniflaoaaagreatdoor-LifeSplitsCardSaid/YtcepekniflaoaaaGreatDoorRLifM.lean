/- The document's things of a split (printed by tools/gen_rlif.py). -/
import Derived.Test.YtcepekniflaoaaaGreatDoorHe
import Derived.Test.YtcepekniflaoaaaGreatDoorHn
import Derived.Test.YtcepekniflaoaaaGreatDoorHr
set_option linter.unusedVariables false
set_option linter.unusedSimpArgs false
set_option maxRecDepth 100000
set_option maxHeartbeats 8000000
namespace Go.Proofs.YtcepekniflaoaaaGreatDoor
open Go.RowKit Go.Bw Go.Maps Go.Shelf Go.Bw.Fall
theorem gm:Tryz.f33.results=#[.cell 8 31,.tmp 9]:=by kernel_rfl
theorem _root_.Go.Bw.dB.Px {w W:World} {R0:Nat} {bs:List (Nat×TypeId×Array Value)} {V:aB} {l:aH} (F:dB w R0 bs V l W) {g c k:Nat} (hv:V.af=.slice (some ⟨g,0,none⟩) l.af.length c) {x:Ins} (hk:l.af[k]?=some x)
 (hc:∀ (o:Nat) u,(Ins.cells x)[o]?=some u->W.cell? ⟨g,k*7+o,none⟩=some u) (s m:Int) :
 dB w R0 bs V { l with af:=l.af.set k { x with strike:=s,mark:=m } } (((((((W.setCell ⟨g,k*7,none⟩ (.int .i64 x.kind)).setCell ⟨g,k*7+1,none⟩ (.int .i64 x.under)).setCell ⟨g,k*7+2,none⟩ (.int .i64 x.mult)).setCell ⟨g,k*7+3,none⟩ (.int .i64 s)).setCell ⟨g,k*7+4,none⟩ (.int .i64 x.aN)).setCell ⟨g,k*7+5,none⟩ (.bool x.call)).setCell ⟨g,k*7+6,none⟩ (.int .i64 m)):=by
 have c0:W.cell? ⟨g,k*7,none⟩=some (.int .i64 x.kind):=by have:=hc 0 _ rfl;simpa using this
 have o4:(W.setCell ⟨g,k*7+3,none⟩ (.int .i64 s)).cell? ⟨g,k*7+4,none⟩=some (.int .i64 x.aN):=by rw[World.cell?_setCell_other _ _ _ _ (by simp)];exact hc 4 _ rfl
 have o5:(W.setCell ⟨g,k*7+3,none⟩ (.int .i64 s)).cell? ⟨g,k*7+5,none⟩=some (.bool x.call):=by rw[World.cell?_setCell_other _ _ _ _ (by simp)];exact hc 5 _ rfl
 rw[dP c0,dP (hc 1 _ rfl),dP (hc 2 _ rfl),dP o4,dP o5];exact F.Oh hv hk s m
theorem _root_.Go.Bw.dB.Kr {w W:World} {R0:Nat} {bs:List (Nat×TypeId×Array Value)} {V:aB} {l:aH} (F:dB w R0 bs V l W) {g c k:Nat} (hv:V.ah=.slice (some ⟨g,0,none⟩) l.ah.length c) {x:dX} (hk:l.ah[k]?=some x)
 (hc:∀ (o:Nat) u,(dX.cells x)[o]?=some u->W.cell? ⟨g,k*4+o,none⟩=some u) (q:Int) :
 dB w R0 bs V { l with ah:=l.ah.set k { x with price:=q } } ((((W.setCell ⟨g,k*4,none⟩ (.string x.name)).setCell ⟨g,k*4+1,none⟩ (.int .i64 x.cur)).setCell ⟨g,k*4+2,none⟩ (.int .i64 q)).setCell ⟨g,k*4+3,none⟩ (.int .i64 x.cZ)):=by
 have c0:W.cell? ⟨g,k*4,none⟩=some (.string x.name):=by have:=hc 0 _ rfl;simpa using this
 have o3:(W.setCell ⟨g,k*4+2,none⟩ (.int .i64 q)).cell? ⟨g,k*4+3,none⟩=some (.int .i64 x.cZ):=by rw[World.cell?_setCell_other _ _ _ _ (by simp)];exact hc 3 _ rfl
 rw[dP c0,dP (hc 1 _ rfl),dP o3];exact F.DV hv hk q
open Classical in
noncomputable def jw (L:aH) (u num den:Int):Int :=
 if (eU num den (L.und u).price).2=0 then
  if dX.Ok { L.und u with price:=(eU num den (L.und u).price).1 } L.aQ.length then fC u num den L.ah.length L.af L.aG else 37
 else (eU num den (L.und u).price).2
def I8 (w:World) (L:aH) (u num den:Int) (e:Ending) (W:World):Prop :=
 Below w.heap.size w W/\((jw L u num den=0/\∃ V2,e=.returned (.tuple #[V2.val (L.split u num den),.int .i64 0])/\bF W w.heap.size V2 (L.split u num den))\/(jw L u num den≠0/\∃ V9 M9,e=.returned (.tuple #[V9.val M9,.int .i64 (jw L u num den)])/\bK W V9 M9))
structure zO (w:World) (R1 b9:Nat) (bs:List (Nat×TypeId×Array Value)) (V2:aB) (L:aH) (u num den:Int) (k:Nat) (W':World):Prop where
 jl:dB w R1 ((b9, 31,V2.cells L)::bs) V2 (L.dV u num den k) W'
 go:fC u num den L.ah.length (L.af.drop k) (L.aG.drop k)=fC u num den L.ah.length L.af L.aG
theorem DJ (w:World) (V:aB) (L:aH) (h:bK w V L) (hG:L.Good) (kk:Nat) (hk:kk<L.ah.length) (num den:Int) :
 Calls Tryz.prog 33 #[V.val L,.int .i64 (kk:Int),.int .i64 num,.int .i64 den] w (I8 w L (kk:Int) num den):=by
 classical
 have LC:=zq (iC h);have HH:=zq h;have HG:=zq hG;have HK:=zq hk;have CP:=zq (fun W (hb:Below w.heap.size w W) (_:L.Good)=>qX W V L (h.below hb) (iq hG).1 (fun a ha=>by have:=(iq hG).2.1 a ha;omega));obtain⟨E,hE⟩:=Zn (jw L (kk:Int) num den);have EE:=zq hE;unfold aB.val at CP ⊢;obtain⟨C,hC⟩:=Zn (V.cells L);have EC:=zq hC;rw[<-hC] at CP LC ⊢;obtain⟨w1,hW0⟩:=Zn ((w.alloc (.cells C 31)).alloc (.cells #[.int .i64 0,.slice none 0 0,.slice none 0 0,.slice none 0 0,.slice none 0 0,.slice none 0 0,.slice none 0 0,.slice none 0 0,.slice none 0 0] 31));obtain⟨b0,hb0⟩:=Zn w.heap.size;have XX:=zq (show At w w1 [(b0, 31,C),(b0+1, 31,aZ)] from by
  have a:=(((At.start w).alloc 31 C).alloc 31 #[.int .i64 0,.slice none 0 0,.slice none 0 0,.slice none 0 0,.slice none 0 0,.slice none 0 0,.slice none 0 0,.slice none 0 0,.slice none 0 0]);have e:∀ (w:World) (o:Obj),(w.alloc o).heap.size=w.heap.size+1:=fun w o=>by simp
  simp only[e] at a
  rw[<-hW0,<-hb0] at a;exact a)
 obtain⟨a2,c2,e2⟩:=HH.o.ah.form;obtain⟨a3,c3,e3⟩:=HH.o.af.form;obtain⟨a1,c1,e1⟩:=HH.o.aQ.form;obtain⟨a7,c7,e7⟩:=HH.o.aG.form;have E2:=zq e2;have E3:=zq e3;have E1:=zq e1;have E7:=zq e7;obtain⟨n2,hn2⟩:=Zn L.ah.length;obtain⟨n3,hn3⟩:=Zn L.af.length;obtain⟨n1,hn1⟩:=Zn L.aQ.length;have N2:=zq hn2;have N3:=zq hn3;have N1:=zq hn1;have AVL:=zq (show L.aG.length=L.af.length from hG.aJ.len);have U12:=zq (show n3<=12/\n2<=6/\n1<=4 from ⟨by rw[hn3];exact hG.things.i1,by rw[hn2];exact hG.things.u1,by rw[hn1];exact hG.things.c1⟩);clear h hG hC hk hE e2 e3 e1 e7 hn2 hn3 hn1
 go_enter Tryz.func33,Tryz.ntmps33
 go_upto_region 1 with (fail)
 rw[<-hW0,<-hb0];have HB:=zq hb0;clear hW0 hb0
 go_wp2_with (refine bW (XX.o.get 0 rfl) LC.o rfl rfl rfl ?_)
 refine (CP.o w1 XX.o.low HG.o).mono ?_;rintro e w2 ⟨V2,rfl,own,hb⟩;have FF:=zq (sS XX.o own hb);have L2:=zq (iC own.led);unfold aB.val;clear own hb CP
 go_upto_region 2 with (refine aW (heap_alloc_last _ _) bG L2.o rfl rfl rfl rfl ?_;rw[World.setRow_alloc_new])
 obtain⟨W3,hW3⟩:=Zn (w2.alloc (.cells (V2.cells L) 31));obtain⟨b9,hb9⟩:=Zn w2.heap.size;rw[<-hW3,<-hb9] at FF;rw[<-hW3,<-hb9];clear hW3 hb9;obtain⟨R1,hR1⟩:=Zn w1.heap.size;rw[<-hR1] at FF;have HB0:=zq (show b0+1<R1/\w.heap.size<=R1 from ⟨by rw[hR1];exact XX.o.lt (b0+1, 31,aZ) (by simp),by rw[hR1];exact XX.o.low.size⟩);clear hR1 XX;obtain⟨ud,hud⟩:=Zn (L.und (kk:Int));have UA:=zq (show L.ah[kk]?=some ud from by rw[hud];exact aH.Hu HK.o);have HUD:=zq hud;clear hud;obtain⟨b2,o2,c2',e2,h2⟩:=(HH.o.below FF.o.at_.low).ah.place UA.o;have ea2:a2=some ⟨b2,o2,none⟩:=by have:=E2.o;rw[e2] at this;injection this with h _ _;exact h.symm
 subst ea2;have y2:W3.cell? ⟨b0,2,none⟩=some (.slice (some ⟨b2,o2,none⟩) n2 c2):=FF.o.at_.cell 1 rfl 2 (by rw[EC.o,N2.o,<-E2.o];rfl);have r0:W3.cell? ⟨b2,o2+kk*4,none⟩=some (.string ud.name):=by have:=h2 0 _ rfl;simpa using this
 have r1:=h2 1 _ rfl;have r2:=h2 2 _ rfl;have r3:=h2 3 _ rfl;have k0:(0:Int)<=(kk:Int):=by omega
 have k1:(kk:Int)<(n2:Int):=by have:=HK.o;have:=N2.o;omega
 clear e2 h2
 go_upto_region 3 with (fail)
 obtain⟨W4,hW4⟩:=Zn (W3.alloc (.cells #[.string ud.name,.int .i64 ud.cur,.int .i64 ud.price,.int .i64 ud.cZ] 48));obtain⟨bu,hbu⟩:=Zn W3.heap.size;have F4:=zq (show dB w R1 ((b9, 31,V2.cells L)::(bu, 48,#[.string ud.name,.int .i64 ud.cur,.int .i64 ud.price,.int .i64 ud.cZ])::[(b0, 31,C),(b0+1, 31,aZ)]) V2 L W4 from by rw[hW4,hbu];exact FF.o.add1 _ _);rw[<-hW4,<-hbu];clear hW4 hbu y2 r0 r1 r2 r3 FF;have u2:W4.cell? ⟨bu,2,none⟩=some (.int .i64 ud.price):=F4.o.at_.cell 1 rfl 2 rfl;obtain⟨p',ep,hp⟩:∃ x e,eU num den ud.price=(x,e):=⟨_,_,rfl⟩;have HP:=zq hp;have MP:=zq (fun W=>kK ud.price den num 0 W);rw[show iT ud.price den num 0=(p',ep) from hp] at MP;clear hp;have ES:=zq (show E=if ep=0 then (if dX.Ok { ud with price:=p' } n1 then fC (kk:Int) num den L.ah.length L.af L.aG else 37) else ep from by rw[EE.o];unfold jw;rw[<-HUD.o,HP.o,<-N1.o])
 go_wp2_with fail
 refine (MP.o _).mono ?_;rintro e w5 ⟨rfl,hb⟩;have F5:=zq (F4.o.go hb);clear hb u2 MP F4;by_cases hz:ep=0;rotate_left
 ·have NE:=zq hz;have hz':(ep != 0)=true:=by rw[bne_iff_ne];exact hz
  clear hz;have LE:=zq (iC F5.o.own.led);have OWB:=zq F5.o.own;have A9:=zq F5.o.at_;have WHY:=zq (show E=ep from by rw[ES.o,if_neg NE.o]);have NZ:=zq (show E≠0 from by rw[WHY.o];exact NE.o)
  go_wp2_with (first|refine bW (A9.o.get 0 rfl) LE.o rfl rfl rfl ?_|refine aW (A9.o.get 3 rfl) bG LE.o rfl rfl rfl rfl ?_)
  refine bodyPost_ret (eF (q:=9) gm _ _ (b0+1) _ rfl (setRow_heap _ _ _ _ _ _ (A9.o.get 3 rfl)) LE.o) rfl ⟨(A9.o.setRow 3 rfl _).low,Or.inr ⟨by rw[<-EE.o];exact NZ.o,V2,L,by rw[<-EE.o,WHY.o];rfl,?_⟩⟩;have hlt:=A9.o.lt (b0+1, 31,aZ) (by simp)
  simp only at hlt
  exact (OWB.o.mod (bJ (b0+1) _) (fun j hj hr e=>by have:=HB0.o;omega)).led
 subst hz;have ES2:=zq (ES.o.trans (if_pos rfl));clear ES;have u2:w5.cell? ⟨bu,2,none⟩=some (.int .i64 ud.price):=F5.o.at_.cell 1 rfl 2 rfl;have z2:=F5.o.at_.free 1 rfl 2
 go_upto_region 7 with (fail)
 have F6:=zq (show dB w R1 ((b9, 31,V2.cells L)::(bu, 48,#[.string ud.name,.int .i64 ud.cur,.int .i64 p',.int .i64 ud.cZ])::[(b0, 31,C),(b0+1, 31,aZ)]) V2 L (w5.setCell ⟨bu,2,none⟩ (.int .i64 p')) from F5.o.cell 1 rfl 2 (.int .i64 p'));obtain⟨W6,hW6⟩:=Zn (w5.setCell ⟨bu,2,none⟩ (.int .i64 p'));rw[<-hW6] at F6;rw[<-hW6];clear hW6 u2 z2 F5;have u0:W6.cell? ⟨bu,0,none⟩=some (.string ud.name):=F6.o.at_.cell 1 rfl 0 rfl;have u1:W6.cell? ⟨bu,1,none⟩=some (.int .i64 ud.cur):=F6.o.at_.cell 1 rfl 1 rfl;have u2:W6.cell? ⟨bu,2,none⟩=some (.int .i64 p'):=F6.o.at_.cell 1 rfl 2 rfl;have u3:W6.cell? ⟨bu,3,none⟩=some (.int .i64 ud.cZ):=F6.o.at_.cell 1 rfl 3 rfl;have y1:W6.cell? ⟨b0,1,none⟩=some (.slice a1 n1 c1):=F6.o.at_.cell 2 rfl 1 (by rw[EC.o,N1.o,<-E1.o];rfl);have UN:=zq (show ∀ W,Calls Tryz.prog 73 #[.agg #[.string ud.name,.int .i64 ud.cur,.int .i64 p',.int .i64 ud.cZ],.int .i64 (n1:Nat)] W fun e w'=>e=.returned (.bool (decide (dX.Ok { ud with price:=p' } n1)))/\Below W.heap.size W w' from fun W=>DL { ud with price:=p' } n1 U12.o.2.2 (F6.o.own.names ud (List.mem_of_getElem? UA.o)) W);obtain⟨B,hB⟩:=Zn (decide (dX.Ok { ud with price:=p' } n1));rw[<-hB] at UN;have EB:=zq hB;clear hB
 go_wp2_with fail
 refine (UN.o _).mono ?_;rintro e w7 ⟨rfl,hb⟩;have F7:=zq (F6.o.go hb);clear hb u0 u1 u2 u3 y1 UN F6
 cases hB:B with
 | false =>
   subst hB;have NE:=zq (show (37:Int)≠0 from by decide);have LE:=zq (iC F7.o.own.led);have OWB:=zq F7.o.own;have A9:=zq F7.o.at_;have WHY:=zq (show E=37 from by rw[ES2.o,if_neg (of_decide_eq_false EB.o.symm)]);have NZ:=zq (show E≠0 from by rw[WHY.o];exact NE.o)
   go_wp2_with (first|refine bW (A9.o.get 0 rfl) LE.o rfl rfl rfl ?_|refine aW (A9.o.get 3 rfl) bG LE.o rfl rfl rfl rfl ?_)
   refine bodyPost_ret (eF (q:=9) gm _ _ (b0+1) _ rfl (setRow_heap _ _ _ _ _ _ (A9.o.get 3 rfl)) LE.o) rfl ⟨(A9.o.setRow 3 rfl _).low,Or.inr ⟨by rw[<-EE.o];exact NZ.o,V2,L,by rw[<-EE.o,WHY.o];rfl,?_⟩⟩;have hlt:=A9.o.lt (b0+1, 31,aZ) (by simp)
   simp only at hlt
   exact (OWB.o.mod (bJ (b0+1) _) (fun j hj hr e=>by have:=HB0.o;omega)).led
 | true =>
   subst hB;have UOK:=zq (show dX.Ok { ud with price:=p' } n1 from of_decide_eq_true EB.o.symm);have ES3:=zq (ES2.o.trans (if_pos UOK.o));clear ES2 EB;obtain⟨g,cg,hv,_,_,hcell,hzz⟩:=F7.o.own.ah.slot iJ (by decide) UA.o;have HV:=zq hv;have HC:=zq hcell;have y2:w7.cell? ⟨b9,2,none⟩=some (.slice (some ⟨g,0,none⟩) n2 cg):=F7.o.at_.cell 0 rfl 2 (by rw[N2.o,<-hv];rfl);have u0:w7.cell? ⟨bu,0,none⟩=some (.string ud.name):=F7.o.at_.cell 1 rfl 0 rfl;have u1:w7.cell? ⟨bu,1,none⟩=some (.int .i64 ud.cur):=F7.o.at_.cell 1 rfl 1 rfl;have u2:w7.cell? ⟨bu,2,none⟩=some (.int .i64 p'):=F7.o.at_.cell 1 rfl 2 rfl;have u3:w7.cell? ⟨bu,3,none⟩=some (.int .i64 ud.cZ):=F7.o.at_.cell 1 rfl 3 rfl;have q0:w7.cell? ⟨g,kk*4,none⟩=some (.string ud.name):=by have:=hcell 0 _ rfl;simpa using this
   have q1:=hcell 1 _ rfl;have q2:=hcell 2 _ rfl;have q3:=hcell 3 _ rfl;have f0:=hzz (kk*4);have f1:=hzz (kk*4+1);have f2:=hzz (kk*4+2);have f3:=hzz (kk*4+3);have F8:=zq (F7.o.Kr HV.o UA.o HC.o p');clear hv hcell hzz
   go_upto_region 10 with (fail)
   obtain⟨W8,hW8⟩:=Zn ((((w7.setCell ⟨g,kk*4,none⟩ (.string ud.name)).setCell ⟨g,kk*4+1,none⟩ (.int .i64 ud.cur)).setCell ⟨g,kk*4+2,none⟩ (.int .i64 p')).setCell ⟨g,kk*4+3,none⟩ (.int .i64 ud.cZ));rw[<-hW8] at F8;rw[<-hW8];clear hW8 y2 u0 u1 u2 u3 q0 q1 q2 q3 f0 f1 f2 f3 F7;have I0:=zq (show zO w R1 b9 ((bu, 48,#[.string ud.name,.int .i64 ud.cur,.int .i64 p',.int .i64 ud.cZ])::[(b0, 31,C),(b0+1, 31,aZ)]) V2 L (kk:Int) num den 0 W8 from by
    have e:L.dV (kk:Int) num den 0={ L with ah:=L.ah.set kk { ud with price:=p' } }:=by
     unfold aH.dV;rw[qB,qB,Int.toNat_natCast,<-HUD.o,HP.o]
    exact⟨by rw[e];exact F8.o,by rw[List.drop_zero,List.drop_zero]⟩)
   have y3:W8.cell? ⟨b0,3,none⟩=some (.slice a3 n3 c3):=F8.o.at_.cell 2 rfl 3 (by rw[EC.o,N3.o,<-E3.o];rfl);clear F8
   go_wp2_with fail
   go_loopw [56] (fun i wr=>∃ k:Nat,k<=n3/\i=.int .i64 k/\∃ W',W'=wr/\Hid (zO w R1 b9 ((bu, 48,#[.string ud.name,.int .i64 ud.cur,.int .i64 p',.int .i64 ud.cZ])::[(b0, 31,C),(b0+1, 31,aZ)]) V2 L (kk:Int) num den k W')) (fun i _=>n3 - (intOf i).toNat)
   case atStart=>exact⟨0,Nat.zero_le _,rfl,_,rfl,I0⟩
   clear y3 I0 k0 k1;obtain⟨k,hk,rfl,W',rfl,IV⟩:=hrel;by_cases hlt:k<n3;rotate_left
   ·have hlt':¬ (k:Int)<(n3:Int):=by omega
    have GO:=zq (show E=0 from by rw[ES3.o,<-IV.o.go,nN (l:=L.af) (by rw[<-N3.o];omega)];exact zi);have F9:=zq (show dB w R1 ((b9, 31,V2.cells L)::(bu, 48,#[.string ud.name,.int .i64 ud.cur,.int .i64 p',.int .i64 ud.cZ])::[(b0, 31,C),(b0+1, 31,aZ)]) V2 (L.split (kk:Int) num den) W' from by rw[<-vW (u:=(kk:Int)) (num:=num) (den:=den) AVL.o (by rw[<-N3.o];omega:L.af.length<=k)];exact IV.o.jl);clear hlt hk IV
    go_wp2_with (first|refine bW (F9.o.at_.get 0 rfl) L2.o rfl rfl rfl ?_|refine aW (F9.o.at_.get 3 rfl) bG L2.o rfl rfl rfl rfl ?_)
    refine bodyPost_ret (eF (q:=9) gm _ _ (b0+1) _ rfl (setRow_heap _ _ _ _ _ _ (F9.o.at_.get 3 rfl)) L2.o) rfl ⟨(F9.o.at_.setRow 3 rfl _).low,Or.inl ⟨by rw[<-EE.o];exact GO.o,V2,rfl,?_⟩⟩;exact (F9.o.own.mod (bJ (b0+1) _) (fun j hj hr e=>by have:=HB0.o;omega)).base HB0.o.2
   have hlt':(k:Int)<(n3:Int):=by omega
   have n12:n3<=12:=U12.o.1;have LT:=zq hlt;obtain⟨i,hi⟩:∃ i,L.af[k]?=some i:=⟨_,Zg (by rw[<-N3.o];exact hlt)⟩;obtain⟨q,hq⟩:∃ q,L.aG[k]?=some q:=⟨_,Zg (by rw[AVL.o,<-N3.o];exact hlt)⟩;have HI:=zq hi;have HQ:=zq hq;have GOK:=zq (show fC (kk:Int) num den L.ah.length (i::L.af.drop (k+1)) (q::L.aG.drop (k+1))=E from by rw[<-drop_at hi,<-drop_at hq,ES3.o];exact IV.o.go);have HW:=zq (HH.o.below IV.o.jl.at_.low);obtain⟨b3,o3,c3',e3,h3⟩:=HW.o.af.place hi;have ea3:a3=some ⟨b3,o3,none⟩:=by have:=E3.o;rw[e3] at this;injection this with h _ _;exact h.symm
   subst ea3;have g0:W'.cell? ⟨b3,o3+k*7,none⟩=some (.int .i64 i.kind):=by have:=h3 0 _ rfl;simpa using this
   have g1:=h3 1 _ rfl;have g2:=h3 2 _ rfl;have g3:=h3 3 _ rfl;have g4:=h3 4 _ rfl;have g5:=h3 5 _ rfl;have g6:=h3 6 _ rfl;clear hi hq hlt hk e3 h3 HW
   go_upto_region 13 with (fail)
   obtain⟨W9,hW9⟩:=Zn (W'.alloc (.cells #[.int .i64 i.kind,.int .i64 i.under,.int .i64 i.mult,.int .i64 i.strike,.int .i64 i.aN,.bool i.call,.int .i64 i.mark] 66));obtain⟨bi,hbi⟩:=Zn W'.heap.size;have F9:=zq (show dB w R1 ((b9, 31,V2.cells L)::(bi, 66,#[.int .i64 i.kind,.int .i64 i.under,.int .i64 i.mult,.int .i64 i.strike,.int .i64 i.aN,.bool i.call,.int .i64 i.mark])::(bu, 48,#[.string ud.name,.int .i64 ud.cur,.int .i64 p',.int .i64 ud.cZ])::[(b0, 31,C),(b0+1, 31,aZ)]) V2 (L.dV (kk:Int) num den k) W9 from by rw[hW9,hbi];exact IV.o.jl.add1 _ _);rw[<-hW9,<-hbi];clear hW9 hbi g0 g1 g2 g3 g4 g5 g6 IV;have i1:W9.cell? ⟨bi,1,none⟩=some (.int .i64 i.under):=F9.o.at_.cell 1 rfl 1 rfl;by_cases hu:i.under=(kk:Int);rotate_left
   ·have qq:(i.under != (kk:Int))=true:=by rw[bne_iff_ne];exact hu
    have NX:=zq (show zO w R1 b9 ((bu, 48,#[.string ud.name,.int .i64 ud.cur,.int .i64 p',.int .i64 ud.cZ])::[(b0, 31,C),(b0+1, 31,aZ)]) V2 L (kk:Int) num den (k+1) W9 from by
     refine⟨?_,by rw[<-ES3.o,<-GOK.o,xq hu]⟩;have e1:mix L.af (gK (kk:Int) num den L.af) (k+1)=mix L.af (gK (kk:Int) num den L.af) k:=qA (fV _ _ _ _) (by rw[lM HI.o,if_neg hu,HI.o]);have e2:mix L.aG (eP (kk:Int) num den L.af L.aG) (k+1)=mix L.aG (eP (kk:Int) num den L.af L.aG) k:=qA (gG AVL.o.symm) (by rw[mQ HI.o HQ.o,if_neg hu,HQ.o]);have e3:L.dV (kk:Int) num den (k+1)=L.dV (kk:Int) num den k:=by unfold aH.dV;rw[e1,e2]
     rw[e3];exact F9.o.drop1)
    clear hu
    go_wp2_with fail
    go_roundw
    case rel=>exact⟨k+1,by have:=LT.o;omega,by go_num,_,rfl,NX⟩
    case measure=>have:=LT.o;simp[intOf];omega
   have qq:(i.under != (kk:Int))=false:=by simp[hu]
   have HU:=zq hu;clear hu;obtain⟨st,es,hs'⟩:∃ x e,eU num den i.strike=(x,e):=⟨_,_,rfl⟩;obtain⟨mk,em,hm'⟩:∃ x e,eU num den i.mark=(x,e):=⟨_,_,rfl⟩;have HSM:=zq (And.intro hs' hm');have IE:=zq (show sZ num den L.ah.length i q=if es=0 then if em=0 then if (kS num den i).Ok L.ah.length then (bY num den q).2 else 37 else em else es from by unfold sZ;rw[hs',hm']);have MS:=zq (fun W=>kK i.strike den num 0 W);have MM:=zq (fun W=>kK i.mark den num 0 W);rw[show iT i.strike den num 0=(st,es) from hs'] at MS;rw[show iT i.mark den num 0=(mk,em) from hm'] at MM;clear hs' hm';have i3:W9.cell? ⟨bi,3,none⟩=some (.int .i64 i.strike):=F9.o.at_.cell 1 rfl 3 rfl;have BAD:=zq (show sZ num den L.ah.length i q≠0->E=sZ num den L.ah.length i q from fun hne=>by rw[<-GOK.o,nS HU.o hne])
   go_wp2_with fail
   refine (MS.o _).mono ?_;rintro e w10 ⟨rfl,hb⟩;have F10:=zq (F9.o.go hb);clear hb i1 i3 MS F9 qq;by_cases hz:es=0;rotate_left
   ·have NE:=zq hz;have hz':(es != 0)=true:=by rw[bne_iff_ne];exact hz
    clear hz;have LE:=zq (iC F10.o.own.led);have OWB:=zq F10.o.own;have A9:=zq F10.o.at_;have WHY:=zq (show E=es from by rw[BAD.o (by rw[IE.o,if_neg NE.o];exact NE.o),IE.o,if_neg NE.o]);have NZ:=zq (show E≠0 from by rw[WHY.o];exact NE.o)
    go_wp2_with (first|refine bW (A9.o.get 0 rfl) LE.o rfl rfl rfl ?_|refine aW (A9.o.get 4 rfl) bG LE.o rfl rfl rfl rfl ?_)
    refine bodyPost_ret (eF (q:=9) gm _ _ (b0+1) _ rfl (setRow_heap _ _ _ _ _ _ (A9.o.get 4 rfl)) LE.o) rfl ⟨(A9.o.setRow 4 rfl _).low,Or.inr ⟨by rw[<-EE.o];exact NZ.o,V2,(L.dV (kk:Int) num den k),by rw[<-EE.o,WHY.o];rfl,?_⟩⟩;have hlt:=A9.o.lt (b0+1, 31,aZ) (by simp)
    simp only at hlt
    exact (OWB.o.mod (bJ (b0+1) _) (fun j hj hr e=>by have:=HB0.o;omega)).led
   subst hz;have IE2:=zq (IE.o.trans (if_pos rfl));have i6:w10.cell? ⟨bi,6,none⟩=some (.int .i64 i.mark):=F10.o.at_.cell 1 rfl 6 rfl;clear IE
   go_wp2_with fail
   refine (MM.o _).mono ?_;rintro e w11 ⟨rfl,hb⟩;have F11:=zq (F10.o.go hb);clear hb i6 MM F10;by_cases hz:em=0;rotate_left
   ·have NE:=zq hz;have hz':(em != 0)=true:=by rw[bne_iff_ne];exact hz
    clear hz;have LE:=zq (iC F11.o.own.led);have OWB:=zq F11.o.own;have A9:=zq F11.o.at_;have WHY:=zq (show E=em from by rw[BAD.o (by rw[IE2.o,if_neg NE.o];exact NE.o),IE2.o,if_neg NE.o]);have NZ:=zq (show E≠0 from by rw[WHY.o];exact NE.o)
    go_wp2_with (first|refine bW (A9.o.get 0 rfl) LE.o rfl rfl rfl ?_|refine aW (A9.o.get 4 rfl) bG LE.o rfl rfl rfl rfl ?_)
    refine bodyPost_ret (eF (q:=9) gm _ _ (b0+1) _ rfl (setRow_heap _ _ _ _ _ _ (A9.o.get 4 rfl)) LE.o) rfl ⟨(A9.o.setRow 4 rfl _).low,Or.inr ⟨by rw[<-EE.o];exact NZ.o,V2,(L.dV (kk:Int) num den k),by rw[<-EE.o,WHY.o];rfl,?_⟩⟩;have hlt:=A9.o.lt (b0+1, 31,aZ) (by simp)
    simp only at hlt
    exact (OWB.o.mod (bJ (b0+1) _) (fun j hj hr e=>by have:=HB0.o;omega)).led
   subst hz;have IE3:=zq (IE2.o.trans (if_pos rfl));clear IE2;have i3:w11.cell? ⟨bi,3,none⟩=some (.int .i64 i.strike):=F11.o.at_.cell 1 rfl 3 rfl;have z3:=F11.o.at_.free 1 rfl 3
   go_upto_region 21 with (fail)
   have F12:=zq (F11.o.cell 1 rfl 3 (.int .i64 st));obtain⟨W12,hW12⟩:=Zn (w11.setCell ⟨bi,3,none⟩ (.int .i64 st));rw[<-hW12] at F12;rw[<-hW12];clear hW12 i3 z3 F11;have i6:W12.cell? ⟨bi,6,none⟩=some (.int .i64 i.mark):=F12.o.at_.cell 1 rfl 6 rfl;have z6:=F12.o.at_.free 1 rfl 6
   go_upto_region 22 with (fail)
   have F13:=zq (show dB w R1 ((b9, 31,V2.cells L)::(bi, 66,#[.int .i64 i.kind,.int .i64 i.under,.int .i64 i.mult,.int .i64 st,.int .i64 i.aN,.bool i.call,.int .i64 mk])::(bu, 48,#[.string ud.name,.int .i64 ud.cur,.int .i64 p',.int .i64 ud.cZ])::[(b0, 31,C),(b0+1, 31,aZ)]) V2 (L.dV (kk:Int) num den k) (W12.setCell ⟨bi,6,none⟩ (.int .i64 mk)) from F12.o.cell 1 rfl 6 (.int .i64 mk));obtain⟨W13,hW13⟩:=Zn (W12.setCell ⟨bi,6,none⟩ (.int .i64 mk));rw[<-hW13] at F13;rw[<-hW13];clear hW13 i6 z6 F12;have i0:W13.cell? ⟨bi,0,none⟩=some (.int .i64 i.kind):=F13.o.at_.cell 1 rfl 0 rfl;have i1:W13.cell? ⟨bi,1,none⟩=some (.int .i64 i.under):=F13.o.at_.cell 1 rfl 1 rfl;have i2:W13.cell? ⟨bi,2,none⟩=some (.int .i64 i.mult):=F13.o.at_.cell 1 rfl 2 rfl;have i3:W13.cell? ⟨bi,3,none⟩=some (.int .i64 st):=F13.o.at_.cell 1 rfl 3 rfl;have i4:W13.cell? ⟨bi,4,none⟩=some (.int .i64 i.aN):=F13.o.at_.cell 1 rfl 4 rfl;have i5:W13.cell? ⟨bi,5,none⟩=some (.bool i.call):=F13.o.at_.cell 1 rfl 5 rfl;have i6:W13.cell? ⟨bi,6,none⟩=some (.int .i64 mk):=F13.o.at_.cell 1 rfl 6 rfl;have y2:W13.cell? ⟨b0,2,none⟩=some (.slice (some ⟨b2,o2,none⟩) n2 c2):=F13.o.at_.cell 3 rfl 2 (by rw[EC.o,N2.o,<-E2.o];rfl);have EI:=zq (show kS num den i={ i with strike:=st,mark:=mk } from by unfold kS;rw[HSM.o.1,HSM.o.2]);have IA:=zq (show ∀ W,Calls Tryz.prog 74 #[.agg #[.int .i64 i.kind,.int .i64 i.under,.int .i64 i.mult,.int .i64 st,.int .i64 i.aN,.bool i.call,.int .i64 mk],.int .i64 (n2:Nat)] W fun e w'=>e=.returned (.bool (decide ((kS num den i).Ok n2)))/\Below W.heap.size W w' from fun W=>by rw[EI.o];exact Dy { i with strike:=st,mark:=mk } n2 U12.o.2.1 W);obtain⟨B,hB⟩:=Zn (decide ((kS num den i).Ok n2));rw[<-hB] at IA;have EB:=zq hB;clear hB
   go_wp2_with fail
   refine (IA.o _).mono ?_;rintro e w14 ⟨rfl,hb⟩;have F14:=zq (F13.o.go hb);clear hb i0 i1 i2 i3 i4 i5 i6 y2 IA F13
   cases hB:B with
   | false =>
     subst hB;have NE:=zq (show (37:Int)≠0 from by decide);have NK:=zq (show ¬ (kS num den i).Ok L.ah.length from by rw[<-N2.o];exact of_decide_eq_false EB.o.symm);have LE:=zq (iC F14.o.own.led);have OWB:=zq F14.o.own;have A9:=zq F14.o.at_;have WHY:=zq (show E=37 from by rw[BAD.o (by rw[IE3.o,if_neg NK.o];exact NE.o),IE3.o,if_neg NK.o]);have NZ:=zq (show E≠0 from by rw[WHY.o];exact NE.o)
     go_wp2_with (first|refine bW (A9.o.get 0 rfl) LE.o rfl rfl rfl ?_|refine aW (A9.o.get 4 rfl) bG LE.o rfl rfl rfl rfl ?_)
     refine bodyPost_ret (eF (q:=9) gm _ _ (b0+1) _ rfl (setRow_heap _ _ _ _ _ _ (A9.o.get 4 rfl)) LE.o) rfl ⟨(A9.o.setRow 4 rfl _).low,Or.inr ⟨by rw[<-EE.o];exact NZ.o,V2,(L.dV (kk:Int) num den k),by rw[<-EE.o,WHY.o];rfl,?_⟩⟩;have hlt:=A9.o.lt (b0+1, 31,aZ) (by simp)
     simp only at hlt
     exact (OWB.o.mod (bJ (b0+1) _) (fun j hj hr e=>by have:=HB0.o;omega)).led
   | true =>
     subst hB;have IE4:=zq (IE3.o.trans (if_pos (by rw[<-N2.o];exact of_decide_eq_true EB.o.symm)));clear IE3 EB;obtain⟨L5,hL5⟩:=Zn (L.dV (kk:Int) num den k);have EL5:=zq hL5;have I5:=zq (show L5.af[k]?=some i from by rw[hL5];exact (qx (fV _ _ _ _)).trans HI.o);have A5:=zq (show L5.aG[k]?=some q from by rw[hL5];exact (qx (gG AVL.o.symm)).trans HQ.o);have K5:=zq (show L5.af.length=n3/\L5.aG.length=n3 from ⟨by rw[hL5,N3.o];exact oO (fV _ _ _ _),by rw[hL5,N3.o,<-AVL.o];exact oO (gG AVL.o.symm)⟩);rw[<-hL5] at F14;obtain⟨g,cg,hv,_,_,hcell,hzz⟩:=F14.o.own.af.slot dU (by decide) I5.o;have HV:=zq hv;have HC:=zq hcell;have y3:w14.cell? ⟨b9,3,none⟩=some (.slice (some ⟨g,0,none⟩) n3 cg):=F14.o.at_.cell 0 rfl 3 (by rw[<-K5.o.1,<-hv];rfl);have i0:w14.cell? ⟨bi,0,none⟩=some (.int .i64 i.kind):=F14.o.at_.cell 1 rfl 0 rfl;have i1:w14.cell? ⟨bi,1,none⟩=some (.int .i64 i.under):=F14.o.at_.cell 1 rfl 1 rfl;have i2:w14.cell? ⟨bi,2,none⟩=some (.int .i64 i.mult):=F14.o.at_.cell 1 rfl 2 rfl;have i3:w14.cell? ⟨bi,3,none⟩=some (.int .i64 st):=F14.o.at_.cell 1 rfl 3 rfl;have i4:w14.cell? ⟨bi,4,none⟩=some (.int .i64 i.aN):=F14.o.at_.cell 1 rfl 4 rfl;have i5:w14.cell? ⟨bi,5,none⟩=some (.bool i.call):=F14.o.at_.cell 1 rfl 5 rfl;have i6:w14.cell? ⟨bi,6,none⟩=some (.int .i64 mk):=F14.o.at_.cell 1 rfl 6 rfl;have g0:w14.cell? ⟨g,k*7,none⟩=some (.int .i64 i.kind):=by have:=hcell 0 _ rfl;simpa using this
     have g1:=hcell 1 _ rfl;have g2:=hcell 2 _ rfl;have g3:=hcell 3 _ rfl;have g4:=hcell 4 _ rfl;have g5:=hcell 5 _ rfl;have g6:=hcell 6 _ rfl;have f0:=hzz (k*7);have f1:=hzz (k*7+1);have f2:=hzz (k*7+2);have f3:=hzz (k*7+3);have f4:=hzz (k*7+4);have f5:=hzz (k*7+5);have f6:=hzz (k*7+6);have k0:(0:Int)<=(k:Int):=by omega
     obtain⟨L6,hL6⟩:∃ l:aH,l={ L5 with af:=L5.af.set k (kS num den i) }:=⟨_,rfl⟩;have EL6:=zq hL6;have F15:=zq (F14.o.Px HV.o I5.o HC.o st mk);rw[<-EI.o,<-hL6] at F15;have A6:=zq (show L6.aG[k]?=some q/\L6.aG.length=n3 from by rw[hL6];exact⟨A5.o,K5.o.2⟩);clear hv hcell hzz hL6 hL5
     go_upto_region 25 with (fail)
     obtain⟨W15,hW15⟩:=Zn (((((((w14.setCell ⟨g,k*7,none⟩ (.int .i64 i.kind)).setCell ⟨g,k*7+1,none⟩ (.int .i64 i.under)).setCell ⟨g,k*7+2,none⟩ (.int .i64 i.mult)).setCell ⟨g,k*7+3,none⟩ (.int .i64 st)).setCell ⟨g,k*7+4,none⟩ (.int .i64 i.aN)).setCell ⟨g,k*7+5,none⟩ (.bool i.call)).setCell ⟨g,k*7+6,none⟩ (.int .i64 mk));rw[<-hW15] at F15;rw[<-hW15];clear hW15 y3 i0 i1 i2 i3 i4 i5 i6 g0 g1 g2 g3 g4 g5 g6 f0 f1 f2 f3 f4 f5 f6 F14;obtain⟨b7,o7,c7',e7,h7⟩:=(HH.o.below F15.o.at_.low).aG.place HQ.o;have ea7:a7=some ⟨b7,o7,none⟩:=by have:=E7.o;rw[e7] at this;injection this with h _ _;exact h.symm
     subst ea7;have y7:W15.cell? ⟨b0,7,none⟩=some (.slice (some ⟨b7,o7,none⟩) n3 c7):=F15.o.at_.cell 3 rfl 7 (by rw[EC.o,N3.o,<-AVL.o,<-E7.o];rfl);have v0:W15.cell? ⟨b7,o7+k,none⟩=some (.int .i64 q):=by have:=h7 0 _ rfl;simpa using this
     obtain⟨sx,se,hsx⟩:∃ x e,bY num den q=(x,e):=⟨_,_,rfl⟩;have HS:=zq hsx;have CQ:=zq (fun W=>rW q num den W);rw[hsx] at CQ IE4;clear hsx e7 h7
     go_wp2_with fail
     refine (CQ.o _).mono ?_;rintro e w16 ⟨⟨x,rfl,hxe⟩,hb⟩;have XE:=zq hxe;have F16:=zq (F15.o.go hb);clear hb hxe y7 v0 CQ F15
     try go_simp
     by_cases hz:se=0;rotate_left
     ·have NE:=zq hz;have hz':(se != 0)=true:=by rw[bne_iff_ne];exact hz
      have F17:=zq (show dB w R1 ((b9, 31,V2.cells L6)::(bi, 66,#[.int .i64 i.kind,.int .i64 i.under,.int .i64 i.mult,.int .i64 st,.int .i64 i.aN,.bool i.call,.int .i64 mk])::(bu, 48,#[.string ud.name,.int .i64 ud.cur,.int .i64 p',.int .i64 ud.cZ])::[(b0, 31,C),(b0+1, 31,aZ)]) V2 L6 w16 from by have f:=F16.o;rw[show V2.cells L=V2.cells L6 from by rw[EL6.o,EL5.o];rfl] at f;exact f);clear hz;have LE:=zq (iC F17.o.own.led);have OWB:=zq F17.o.own;have A9:=zq F17.o.at_;have WHY:=zq (show E=se from by rw[BAD.o (by rw[IE4.o];exact NE.o),IE4.o]);have NZ:=zq (show E≠0 from by rw[WHY.o];exact NE.o)
      go_wp2_with (first|refine bW (A9.o.get 0 rfl) LE.o rfl rfl rfl ?_|refine aW (A9.o.get 4 rfl) bG LE.o rfl rfl rfl rfl ?_)
      refine bodyPost_ret (eF (q:=9) gm _ _ (b0+1) _ rfl (setRow_heap _ _ _ _ _ _ (A9.o.get 4 rfl)) LE.o) rfl ⟨(A9.o.setRow 4 rfl _).low,Or.inr ⟨by rw[<-EE.o];exact NZ.o,V2,L6,by rw[<-EE.o,WHY.o];rfl,?_⟩⟩;have hlt:=A9.o.lt (b0+1, 31,aZ) (by simp)
      simp only at hlt
      exact (OWB.o.mod (bJ (b0+1) _) (fun j hj hr e=>by have:=HB0.o;omega)).led
     subst hz;have ex:x=sx:=XE.o rfl;subst ex;obtain⟨gv,cv,hv,_,_,hcell,hzz⟩:=F16.o.own.aG.slot (fun _=>rfl) (by decide) A6.o.1;have HV7:=zq hv;have y7:w16.cell? ⟨b9,7,none⟩=some (.slice (some ⟨gv,0,none⟩) n3 cv):=F16.o.at_.cell 0 rfl 7 (by rw[<-A6.o.2,<-hv];rfl);have v0:w16.cell? ⟨gv,k,none⟩=some (.int .i64 q):=by have:=hcell 0 _ rfl;simpa using this
     have z0:=hzz k;have F17:=zq (F16.o.drop1.DU HV7.o A6.o.1 x);have NX:=zq (show zO w R1 b9 ((bu, 48,#[.string ud.name,.int .i64 ud.cur,.int .i64 p',.int .i64 ud.cZ])::[(b0, 31,C),(b0+1, 31,aZ)]) V2 L (kk:Int) num den (k+1) (w16.setCell ⟨gv,k,none⟩ (.int .i64 x)) from by
      have e:L.dV (kk:Int) num den (k+1)={ L6 with aG:=L6.aG.set k x }:=by
       rw[EL6.o,EL5.o];unfold aH.dV;rw[qy (fV _ _ _ _) (y:=kS num den i) (by rw[lM HI.o,if_pos HU.o]),qy (gG AVL.o.symm) (y:=x) (by rw[mQ HI.o HQ.o,if_pos HU.o,HS.o])]
      refine⟨by rw[e];exact F17.o,?_⟩;rw[<-ES3.o,<-GOK.o,xu HU.o IE4.o])
     clear hv hcell hzz
     go_wp2_with fail
     go_roundw
     case rel=>exact⟨k+1,by have:=LT.o;omega,by go_num,_,rfl,NX⟩
     case measure=>have:=LT.o;simp[intOf];omega
end Go.Proofs.YtcepekniflaoaaaGreatDoor
