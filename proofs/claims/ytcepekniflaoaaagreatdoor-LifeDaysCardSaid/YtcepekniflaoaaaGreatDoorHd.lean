/- Joined: AdmK, LifD. -/
import Derived.Test.YtcepekniflaoaaaGreatDoorHb
import Derived.Test.YtcepekniflaoaaaGreatDoorGe
import Derived.Test.YtcepekniflaoaaaGreatDoorLifC
import Derived.Test.YtcepekniflaoaaaGreatDoorHp
set_option linter.unusedVariables false
set_option linter.unusedSimpArgs false
set_option maxRecDepth 100000
set_option maxHeartbeats 4000000
namespace Go.Proofs.YtcepekniflaoaaaGreatDoor
open Go.RowKit Go.Bw Go.Maps Go.Shelf Go.Bw.Fall
theorem Py (i:Ins) (u:dY) (n m:Nat) (hi:i.Ok n) (hu:u.Ok m) (day:Int) (d0:0<=day) (d1:day<=100000) (w:World) :
 Calls Tryz.prog 91 #[.agg #[.int .i64 i.kind,.int .i64 i.under,.int .i64 i.mult,.int .i64 i.strike,.int .i64 i.aJ,.bool i.call,.int .i64 i.mark],.agg #[.string u.name,.int .i64 u.cur,.int .i64 u.price,.int .i64 u.di],.int .i64 day] w fun e w'=>e=.returned (.tuple #[.int .i64 (kF i u.price u.di day).1,.int .i64 0])/\Below w.heap.size w w':=by
 obtain⟨_,_,_,p0,p1,v0,v1⟩:=hu;have U:=zq (fun W=>zC i n hi u.price u.di day (by omega) (by omega) v0 (by omega) d0 d1 W);obtain⟨r,hr⟩:=Zn ((kF i u.price u.di day).1);rw[<-hr] at U ⊢;have q0:¬ u.price<0:=by omega
 have q1:¬ (1000000000000:Int)<u.price:=by omega
 have q2:¬ u.di<0:=by omega
 have q3:¬ (50000:Int)<u.di:=by omega
 have B:=zq (show ∀ c1 c2,Below w.heap.size w ((w.alloc (.cells c1 66)).alloc (.cells c2 48)) from fun c1 c2=>(Zb).alloc (by simp) _);clear hr hi d0 d1 p0 p1 v0 v1
 go_enter Tryz.func91,Tryz.ntmps91
 go_wp2_with fail
 refine (U.o _).mono ?_;rintro e w' ⟨rfl,hb⟩;have BB:=zq ((B.o _ _).trans (hb.mono (B.o _ _).size));clear hb
 go_wp2_with fail
 go_ret2;exact⟨rfl,BB.o⟩
end Go.Proofs.YtcepekniflaoaaaGreatDoor
namespace Go.Bw
open Go.RowKit
theorem dA.Qc {w W W':World} {R0 b:Nat} {bs:List (Nat×TypeId×Array Value)} {V:aB} {l L:aI} {T:TypeId} (h:dA w R0 ((b,T,V.cells L)::bs) V l W) (hm:Mod (fun _=>False) W W') {v:Value} {xs:List Pos} (ho:aV W' R0 50 3 Pos.cells v xs) (hv:∀ k,v.ownBlock=some k->W.heap.size<=k) :
 dA w R0 ((b,T,({ V with au:=v }:aB).cells L)::bs) { V with au:=v } { l with au:=xs } (W'.setCell ⟨b,5,none⟩ v):=by
 have hm':=hm.mono (T:=fun k=>V.au.ownBlock=some k) (fun _ _ h=>h.elim);have hb:∀ k,v.ownBlock=some k->V.au.ownBlock=some k\/W.heap.size<=k:=fun k hk=>Or.inr (hv k hk)
 have f:=h.Ap (h.own.xP hm' ho hb) hm' (q:=4) rfl rfl hb;exact f.cell 0 rfl 5 v
theorem dA.Oc {w W W':World} {R0 b:Nat} {bs:List (Nat×TypeId×Array Value)} {V:aB} {l L:aI} {T:TypeId} (h:dA w R0 ((b,T,V.cells L)::bs) V l W) (hm:Mod (fun _=>False) W W') {v:Value} {xs:List Int} (ho:aV W' R0 3 1 cO v xs) (hv:∀ k,v.ownBlock=some k->W.heap.size<=k) :
 dA w R0 ((b,T,({ V with aG:=v }:aB).cells L)::bs) { V with aG:=v } { l with aG:=xs } (W'.setCell ⟨b,7,none⟩ v):=by
 have hm':=hm.mono (T:=fun k=>V.aG.ownBlock=some k) (fun _ _ h=>h.elim);have hb:∀ k,v.ownBlock=some k->V.aG.ownBlock=some k\/W.heap.size<=k:=fun k hk=>Or.inr (hv k hk)
 have f:=h.Ap (h.own.JX hm' ho hb) hm' (q:=6) rfl rfl hb;exact f.cell 0 rfl 7 v
theorem dA.Qb {w W W':World} {R0 b:Nat} {bs:List (Nat×TypeId×Array Value)} {V:aB} {l L:aI} {T:TypeId} (h:dA w R0 ((b,T,V.cells L)::bs) V l W) (hm:Mod (fun _=>False) W W') {v:Value} {xs:List Pos} (ho:aV W' R0 72 3 Pos.cells v xs) (hv:∀ k,v.ownBlock=some k->W.heap.size<=k) :
 dA w R0 ((b,T,({ V with aN:=v }:aB).cells L)::bs) { V with aN:=v } { l with aN:=xs } (W'.setCell ⟨b,8,none⟩ v):=by
 have hm':=hm.mono (T:=fun k=>V.aN.ownBlock=some k) (fun _ _ h=>h.elim);have hb:∀ k,v.ownBlock=some k->V.aN.ownBlock=some k\/W.heap.size<=k:=fun k hk=>Or.inr (hv k hk)
 have f:=h.Ap (h.own.Dv hm' ho hb) hm' (q:=7) rfl rfl hb;exact f.cell 0 rfl 8 v
def Bg (b:Nat) (v:Value) (c:Nat) (W W':World):Prop:=∀ g o u,W.cell? ⟨g,o,none⟩=some u->g≠b->(v.ownBlock=some g->o≠c)->W'.cell? ⟨g,o,none⟩=some u
theorem lt_of_cell {W:World} {g o:Nat} {u:Value} (h:W.cell? ⟨g,o,none⟩=some u):g<W.heap.size:=by
 by_cases hg:g<W.heap.size
 ·exact hg
 have:W.heap[g]?=none:=Array.getElem?_eq_none (by omega);simp[World.cell?,this] at h
theorem dA.drop1 {w W:World} {R0:Nat} {x y:Nat×TypeId×Array Value} {bs:List (Nat×TypeId×Array Value)} {V:aB} {l:aI} (h:dA w R0 (x::y::bs) V l W):dA w R0 (x::bs) V l W :=
 ⟨h.at_.sub ((List.sublist_cons_self _ _).cons_cons _),h.own,fun z hz=>h.sD z (by rcases List.mem_cons.1 hz with rfl|hz <;> simp[*]),h.rb,h.lo⟩
theorem dA.add1 {w W:World} {R0:Nat} {x:Nat×TypeId×Array Value} {bs:List (Nat×TypeId×Array Value)} {V:aB} {l:aI} (h:dA w R0 (x::bs) V l W) (T:TypeId) (cs:Array Value):dA w R0 (x::(W.heap.size,T,cs)::bs) V l (W.alloc (.cells cs T)) :=
 (h.box T cs).perm (List.Perm.cons _ List.perm_append_comm)
end Go.Bw
namespace Go.Proofs.YtcepekniflaoaaaGreatDoor
open Go.RowKit Go.Bw Go.Maps Go.Shelf Go.Bw.Fall
def yQ (w W:World) (R0 b:Nat) (bs:List (Nat×TypeId×Array Value)) (V:aB) (n:Nat) (r:aI×Int) (e:Ending) (W':World):Prop :=
 (r.2=0/\e=.returned (.tuple #[])/\Bg b V.af (n*7+6) W W'/\∃ V',dA w R0 ((b, 57,V'.cells r.1)::bs) V' r.1 W'/\(V'.af=V.af\/∀ k,V'.af.ownBlock=some k->W.heap.size<=k))\/(r.2≠0/\e=.panicked (jf r.2)/\At w W' bs)
structure PayAt (w W:World) (R0 b:Nat) (bs:List (Nat×TypeId×Array Value)) (V:aB) (L:aI) (f:Pos->Option (Int×Int)) (c:Pos->Int) (frm:Int) (k:Nat) (V':aB) (M:aI) (W':World):Prop where
 fM:dA w R0 ((b, 57,V'.cells M)::bs) V' M W'
 go:dw f c frm (L.au.drop k) M=dw f c frm L.au L
 bY:dX L M
 mod:Mod (fun k=>k=b) W W'
 ins:V'.af=V.af\/∀ k,V'.af.ownBlock=some k->W.heap.size<=k
theorem PayAt.next {w W:World} {R0 b:Nat} {bs:List (Nat×TypeId×Array Value)} {V:aB} {L:aI} {f:Pos->Option (Int×Int)} {c:Pos->Int} {frm:Int} {k:Nat} {V' V2:aB} {M:aI} {W' W2 W3:World} (h:PayAt w W R0 b bs V L f c frm k V' M W') {p:Pos} {x:Int×Int} (hp:L.au[k]?=some p) (hf:f p=some x) (hx:x.2=0) (hr:(fJ M (c p) x.1 frm p.ak).2=0)
 (hfr:0<=frm/\frm<L.ai.length) (ha:0<=p.ak/\p.ak<L.ai.length) (F:dA w R0 ((b, 57,V2.cells (fJ M (c p) x.1 frm p.ak).1)::bs) V2 (fJ M (c p) x.1 frm p.ak).1 W3) (o:bn W3 W2.heap.size V2 (fJ M (c p) x.1 frm p.ak).1) (hb:Below W'.heap.size W' W2) (hm:Mod (fun k=>k=b) W2 W3) :
 PayAt w W R0 b bs V L f c frm (k+1) V2 (fJ M (c p) x.1 frm p.ak).1 W3:=by
 have M2:=(h.mod.trans (Mod.of_below hb) (fun _ _ h=>h.elim));refine⟨F,?_,h.bY.trans (mX ⟨hfr.1,by rw[h.bY.len];exact hfr.2⟩ ⟨ha.1,by rw[h.bY.len];exact ha.2⟩ hr),M2.trans hm (fun _ _ h=>h),Or.inr (fun j hj=>?_)⟩
 ·rw[<-h.go,drop_at hp,rP hf hx hr]
 have:=(o.Pm V2.af (by simp[aB.rows]) j hj).1;have:=M2.size;omega
theorem PayAt.skip {w W:World} {R0 b:Nat} {bs:List (Nat×TypeId×Array Value)} {V:aB} {L:aI} {f:Pos->Option (Int×Int)} {c:Pos->Int} {frm:Int} {k:Nat} {V':aB} {M:aI} {W' W2:World} (h:PayAt w W R0 b bs V L f c frm k V' M W') {p:Pos} (hp:L.au[k]?=some p) (hf:f p=none) (hb:Below W'.heap.size W' W2):PayAt w W R0 b bs V L f c frm (k+1) V' M W2 :=
 ⟨h.fM.go hb,by rw[<-h.go,drop_at hp,rQ hf],h.bY,h.mod.trans (Mod.of_below hb) (fun _ _ h=>h.elim),h.ins⟩
theorem PayAt.Bc {w W:World} {R0 b:Nat} {bs:List (Nat×TypeId×Array Value)} {V:aB} {L:aI} {f:Pos->Option (Int×Int)} {c:Pos->Int} {frm:Int} {k:Nat} {V':aB} {M:aI} {W' W2:World} (h:PayAt w W R0 b bs V L f c frm k V' M W') (hb:Below W'.heap.size W' W2):PayAt w W R0 b bs V L f c frm k V' M W2 :=
 ⟨h.fM.go hb,h.go,h.bY,h.mod.trans (Mod.of_below hb) (fun _ _ h=>h.elim),h.ins⟩
theorem PayAt.less {w W:World} {R0 b:Nat} {x:Nat×TypeId×Array Value} {bs:List (Nat×TypeId×Array Value)} {V:aB} {L:aI} {f:Pos->Option (Int×Int)} {c:Pos->Int} {frm:Int} {k:Nat} {V':aB} {M:aI} {W':World} (h:PayAt w W R0 b (x::bs) V L f c frm k V' M W'):PayAt w W R0 b bs V L f c frm k V' M W' :=
 ⟨h.fM.drop1,h.go,h.bY,h.mod,h.ins⟩
theorem PayAt.ended {w W:World} {R0 b:Nat} {bs:List (Nat×TypeId×Array Value)} {V:aB} {L:aI} {f:Pos->Option (Int×Int)} {c:Pos->Int} {frm:Int} {k:Nat} {V':aB} {M:aI} {W':World} (h:PayAt w W R0 b bs V L f c frm k V' M W') (hk:L.au.length<=k):dw f c frm L.au L=(M,0):=by
 rw[<-h.go,lY hk];rfl
theorem PayAt.row {w W:World} {R0 b:Nat} {bs cs:List (Nat×TypeId×Array Value)} {V:aB} {L:aI} {f:Pos->Option (Int×Int)} {c:Pos->Int} {frm:Int} {k:Nat} {V':aB} {M:aI} {W':World} (h:PayAt w W R0 b bs V L f c frm k V' M W') {T:TypeId} {C:Array Value} (F:dA w R0 ((b,T,C)::cs) V L W):RowOf W' 3 Pos.cells V.au L.au :=
 F.own.led.au.kept h.mod (fun j hj e=>by subst e;exact F.sD (j,T,C) (by simp) V.au (by simp[aB.rows]) hj)
theorem _root_.Go.Bw.dX.cZ {L M:aI} (h:dX L M) (n:Int):M.cZ n=L.cZ n:=by unfold aI.cZ aI.und aI.ins;rw[h.ah,h.af]
theorem _root_.Go.Bw.dX.ins_eq {L M:aI} (h:dX L M) (n:Int):M.ins n=L.ins n:=by unfold aI.ins;rw[h.af]
theorem rF {x:Int} (h0:-1000000000000000<=x) (h1:x<=1000000000000000):aO x=true:=aH.2 (by omega)
theorem PayAt.more {w W:World} {R0 b:Nat} {bs:List (Nat×TypeId×Array Value)} {V:aB} {L:aI} {f:Pos->Option (Int×Int)} {c:Pos->Int} {frm:Int} {k:Nat} {V':aB} {M:aI} {W':World} (h:PayAt w W R0 b bs V L f c frm k V' M W') (T:TypeId) (cells:Array Value) :
 PayAt w W R0 b ((W'.heap.size,T,cells)::bs) V L f c frm k V' M (W'.alloc (.cells cells T)) :=
 ⟨h.fM.add1 T cells,h.go,h.bY,h.mod.trans (Mod.of_below (Zb)) (fun _ _ h=>h.elim),h.ins⟩
theorem Dn (w W:World) (R0 b:Nat) (bs:List (Nat×TypeId×Array Value)) (V:aB) (L:aI) (F:dA w R0 ((b, 57,V.cells L)::bs) V L W) (hG:L.Good) (n:Nat) (hn:n<L.af.length) :
 Calls Tryz.prog 54 #[.pointer (some ⟨b,0,none⟩),.int .i64 (n:Int)] W (yQ w W R0 b bs V n (dI L n)):=by
 have FF:=zq F;have HG:=zq hG;have HN:=zq hn;obtain⟨nk,n0⟩:=Ar hG hn;obtain⟨m,e1,hm,hu⟩:=hG.zN hn;have hi:=hG.rq hn;have hud:=hG.yt (n:=(L.ins n).under) hi.1 hi.2.1;obtain⟨now,hnow⟩:=Zn ((qB (L.ins n) (L.und (L.ins n).under) L.day).1);have NW:=zq (fun W=>Py (L.ins n) (L.und (L.ins n).under) _ _ hi hud L.day hG.d0 hG.d1 W);have eu:(kF (L.ins n) (L.und (L.ins n).under).price (L.und (L.ins n).under).di L.day).1=now:=by
  rw[hnow];unfold qB;obtain⟨_,_,_,p0,p1,v0,v1⟩:=hud;rw[if_pos ⟨⟨by omega,p1⟩,v0,v1⟩]
 rw[eu] at NW;rw[<-hnow] at n0;have SA:=zq (show (now<=100000000000000->dI L n=if (dw (gU L n) (fun _=>L.cZ n) 0 L.au L).2=0 then ({ (dw (gU L n) (fun _=>L.cZ n) 0 L.au L).1 with af:=L.af.set n { L.ins n with mark:=now } },0) else (aI.none,(dw (gU L n) (fun _=>L.cZ n) 0 L.au L).2))/\(¬ now<=100000000000000->dI L n=(aI.none,4)) from by
  unfold dI;rw[if_pos nk,<-hnow];exact⟨fun h=>by rw[if_pos h],fun h=>by rw[if_neg h]⟩)
 have SF:=zq (show ∀ p:Pos,gU L n p=if p.instr=n then some (dP (L.ins n) p.qty (now - (L.ins n).mark)) else none from fun p=>by unfold gU;rw[<-hnow]);have NB:=zq (And.intro n0 (show 0<=(L.ins n).mark/\(L.ins n).mark<=100000000000000 from ⟨hi.2.2.2.2.1,hi.2.2.2.2.2.1⟩));have AC:=zq (l9 hG);obtain⟨S,hS⟩:=Zn (dI L n);rw[<-hS] at SA ⊢;obtain⟨b3,o3,c3,e3,h3⟩:=F.own.led.af.place (aI.gX hn);obtain⟨b2,o2,c2,e2,h2⟩:=F.own.led.ah.place hu;obtain⟨n3,hn3⟩:=Zn L.af.length;obtain⟨n2,hn2⟩:=Zn L.ah.length;rw[<-hn3] at e3 hn;rw[<-hn2] at e2 hm;have y0:W.cell? ⟨b,0,none⟩=some (.int .i64 L.day):=F.at_.cell 0 rfl 0 rfl;have y3:W.cell? ⟨b,3,none⟩=some (.slice (some ⟨b3,o3,none⟩) n3 c3):=by rw[<-e3];exact F.at_.cell 0 rfl 3 rfl
 have y2:W.cell? ⟨b,2,none⟩=some (.slice (some ⟨b2,o2,none⟩) n2 c2):=by rw[<-e2];exact F.at_.cell 0 rfl 2 rfl
 have q0:W.cell? ⟨b3,o3+n*7,none⟩=some (.int .i64 (L.ins n).kind):=by have:=h3 0 _ rfl;simpa using this
 have q1:W.cell? ⟨b3,o3+n*7+1,none⟩=some (.int .i64 (m:Int)):=by rw[<-e1];exact h3 1 _ rfl
 have q2:=h3 2 _ rfl;have q3:=h3 3 _ rfl;have q4:=h3 4 _ rfl;have q5:=h3 5 _ rfl;have q6:=h3 6 _ rfl;have r0:W.cell? ⟨b2,o2+m*4,none⟩=some (.string (L.und (L.ins n).under).name):=by have:=h2 0 _ rfl;simpa using this
 have r1:=h2 1 _ rfl;have r2:=h2 2 _ rfl;have r3:=h2 3 _ rfl;have E1:=zq e1;have k0:(0:Int)<=(n:Int):=by omega
 have k1:(n:Int)<(n3:Int):=by omega
 have m0:(0:Int)<=(m:Int):=by omega
 have m1:(m:Int)<(n2:Int):=by omega
 have N3:=zq hn3;rw[e1] at NW;obtain⟨U,hU⟩:=Zn (L.und (m:Int));obtain⟨I,hI⟩:=Zn (L.ins n);have EI:=zq hI;rw[e1,<-hU] at r0 r1 r2 r3;rw[<-hI] at q0 q2 q3 q4 q5 q6 NB SF;rw[<-hI,<-hU] at NW;have EU:=zq (show I.under=(m:Int) from by rw[hI,e1]);clear F hG nk n0 hu hi hud hnow eu hS h3 h2 hn3 hn2 e1 e2 e3 hn hm hU hI
 go_enter Tryz.func54,Tryz.ntmps54
 go_upto_region 1 with (fail)
 obtain⟨W1,hW1⟩:=Zn (W.alloc (.cells #[.int .i64 I.kind,.int .i64 (m:Int),.int .i64 I.mult,.int .i64 I.strike,.int .i64 I.aJ,.bool I.call,.int .i64 I.mark] 66));obtain⟨bi,hbi⟩:=Zn W.heap.size;have F1:=zq (show dA w R0 ((b, 57,V.cells L)::(bi, 66,#[.int .i64 I.kind,.int .i64 (m:Int),.int .i64 I.mult,.int .i64 I.strike,.int .i64 I.aJ,.bool I.call,.int .i64 I.mark])::bs) V L W1 from by rw[hW1,hbi];exact FF.o.add1 _ _);have M1:=zq (show Mod (fun k=>k=b) W W1 from by rw[hW1];exact Mod.of_below (Zb) |>.mono (fun _ _ h=>h.elim));have hal:∀ {a u},W.cell? a=some u->W1.cell? a=some u:=fun h=>by rw[hW1];exact ((Mod.refl (fun _=>False) W).alloc _).cell h (fun h=>h)
 replace y0:=hal y0
 replace y2:=hal y2
 replace r0:=hal r0
 replace r1:=hal r1
 replace r2:=hal r2
 replace r3:=hal r3
 have i0:W1.cell? ⟨bi,0,none⟩=some (.int .i64 I.kind):=F1.o.at_.cell 1 rfl 0 rfl;have i1:W1.cell? ⟨bi,1,none⟩=some (.int .i64 (m:Int)):=F1.o.at_.cell 1 rfl 1 rfl;have i2:W1.cell? ⟨bi,2,none⟩=some (.int .i64 I.mult):=F1.o.at_.cell 1 rfl 2 rfl;have i3:W1.cell? ⟨bi,3,none⟩=some (.int .i64 I.strike):=F1.o.at_.cell 1 rfl 3 rfl;have i4:W1.cell? ⟨bi,4,none⟩=some (.int .i64 I.aJ):=F1.o.at_.cell 1 rfl 4 rfl;have i5:W1.cell? ⟨bi,5,none⟩=some (.bool I.call):=F1.o.at_.cell 1 rfl 5 rfl;have i6:W1.cell? ⟨bi,6,none⟩=some (.int .i64 I.mark):=F1.o.at_.cell 1 rfl 6 rfl;rw[<-hW1,<-hbi];clear hW1 hbi hal y3 q0 q1 q2 q3 q4 q5 q6;refine aF.wz [15,18] [] (.step 0 (.step 1 (.step 2 (.step 3 (.step 4 (.step 5 (.step 6 (.step 7 (.step 8 (.step 9 (.step 10 (.step 11 (.step 12 (.step 13 (.step 14 (.step 15 (.step 16 (.step 17 (.step 18 (.step 19 .leaf)))))))))))))))))))) (by kernel_rfl) (by kernel_rfl) ?_;refine aF.aC [0,1,2,3,4,5,6,7,8,9,10,11,12,13,14] (by kernel_rfl) ?_
 simp only[ay,nth]
 repeat (go_big_quiet_step (fail))
 refine wpQuiet_nil ?_;refine aF.aK (by kernel_rfl) rfl (fun K hK=>?_)
 simp only[ay,nth]
 refine aA ?_;go_simp;refine (NW.o _).mono ?_;rintro e w2 ⟨rfl,hb⟩;have B2:=zq (show Below W1.heap.size W1 w2 from ((Mod.refl (fun _=>False) W1).drew).aQ.trans (by simpa using hb));clear hb y0 y2 r0 r1 r2 r3 i0 i1 i2 i3 i4 i5 i6;go_simp;refine hK _ _ (fun h=>by cases h) ?_;clear hK;refine aF.aC [16,17] (by kernel_rfl) ?_
 simp only[ay,nth]
 repeat (go_big_quiet_step (fail))
 refine wpQuiet_nil ?_;refine aF.aK (by kernel_rfl) rfl (fun K hK=>?_)
 simp only[ay,nth]
 refine aA ?_;go_simp;refine (nY now _).mono ?_;rintro e w' ⟨rfl,rfl⟩;go_simp;refine hK _ _ (fun h=>by cases h) ?_;clear hK;refine aF.aC [19] (by kernel_rfl) ?_
 simp only[ay,nth]
 repeat (go_big_quiet_step (fail))
 refine wpQuiet_nil ?_;refine aF.aZ ?_;have F2:=zq (F1.o.go B2.o);have M2:=zq (M1.o.trans (Mod.of_below B2.o) (fun _ _ h=>h.elim));clear NW F1 B2
 go_wp2_with fail
 refine (iU (now<=100000000000000) 4 _).mono ?_;rintro e w' ⟨he,rfl⟩;rcases Or.symm he with ⟨hlt,rfl⟩|⟨hlt,rfl⟩
 ·have ES:=zq (SA.o.2 (by omega))
  go_wp2_with fail
  refine⟨rfl,Or.inr ⟨by rw[ES.o];decide,by rw[ES.o],?_⟩⟩;exact F2.o.at_.sub ((List.sublist_cons_self _ _).trans (List.sublist_cons_self _ _))
 have ES:=zq (SA.o.1 hlt);have HNOW:=zq hlt;clear SA he hlt;obtain⟨f,hf⟩:=Zn (gU L n);obtain⟨c,hc⟩:∃ c:Pos->Int,c=fun _=>L.cZ n:=⟨_,rfl⟩
 have EC:=zq (show ∀ p,c p=L.cZ n from fun p=>by rw[hc]);rw[<-hf,<-hc] at ES;rw[<-hf] at SF;clear hf hc;obtain⟨a5,c5,e5⟩:=FF.o.own.led.au.form;have E5:=zq e5;obtain⟨n5,hn5⟩:=Zn L.au.length;have N5:=zq hn5;have y5:w2.cell? ⟨b,5,none⟩=some (.slice a5 n5 c5):=by rw[hn5,<-e5];exact F2.o.at_.cell 0 rfl 5 rfl
 clear e5 hn5
 go_wp2_with fail
 go_loopw [44] (fun i wr=>∃ k:Nat,k<=n5/\i=.int .i64 k/\∃ W',W'=wr/\Hid (∃ V' M',PayAt w W R0 b ((bi, 66,#[.int .i64 I.kind,.int .i64 (m:Int),.int .i64 I.mult,.int .i64 I.strike,.int .i64 I.aJ,.bool I.call,.int .i64 I.mark])::bs) V L f c 0 k V' M' W')) (fun i _=>n5 - (intOf i).toNat)
 case atStart=>exact⟨0,Nat.zero_le _,rfl,_,rfl,zq ⟨V,L,F2.o,by rw[List.drop_zero],dX.rfl,M2.o,Or.inl rfl⟩⟩
 clear y5 F2 M2;obtain⟨k,hk,rfl,W',rfl,IV0⟩:=hrel;obtain⟨V',M',IV1⟩:=IV0.o;have IV:=zq IV1;clear IV0 IV1;by_cases hlt:k<n5
 ·have hlt':(k:Int)<(n5:Int):=by omega
  have n64:n5<=64:=by rw[N5.o];exact HG.o.au.len
  have LT:=zq hlt;obtain⟨p,hp⟩:∃ p,L.au[k]?=some p:=⟨_,Zg (by rw[<-N5.o];exact hlt)⟩;have HP:=zq hp;obtain⟨bp,op,cp,ep,hc⟩:=(IV.o.row FF.o).place hp;have ea:a5=some ⟨bp,op,none⟩:=by have:=E5.o;rw[ep] at this;injection this with h _ _;exact h.symm
  obtain⟨p2,p3,p4,p5,p6,p7,p8⟩:=HG.o.au.all p (List.mem_of_getElem? hp);obtain⟨pa,hpa⟩:∃ x:Nat,p.ak=x:=⟨p.ak.toNat,by omega⟩;have HPA:=zq (And.intro hpa (show 2<=pa/\pa<L.ai.length from ⟨by omega,by omega⟩));have HQ:=zq (And.intro p7 p8);have q0:W'.cell? ⟨bp,op+k*3,none⟩=some (.int .i64 (pa:Int)):=by have:=hc 0 _ rfl;rw[<-hpa];simpa using this
  have q1:=hc 1 _ rfl;have q2:=hc 2 _ rfl;subst ea;have SFp:=zq (SF.o p);clear hp hc ep hlt hk p2 p3 p4 p5 p6 p7 p8 hpa;obtain⟨pi,hpi⟩:=Zn p.instr;obtain⟨pq,hpq⟩:=Zn p.qty;have PI:=zq hpi;have PQ:=zq hpq;rw[<-hpi] at q1;rw[<-hpq] at q2;rw[<-hpi,<-hpq] at SFp;clear hpi hpq;by_cases hin:pi=(n:Int)
  ·have qq:(pi==(n:Int))=true:=by simp[hin]
   have SP:=zq (show f p=some (dP I pq (now - I.mark)) from by rw[SFp.o,if_pos hin]);clear SFp hin;obtain⟨x,er,hx⟩:∃ x er,dP I pq (now - I.mark)=(x,er):=⟨_,_,rfl⟩;rw[hx] at SP;obtain⟨cu,hcu⟩:∃ cu:Nat,L.cZ n=cu/\cu<L.aS.length:=⟨(L.cZ n).toNat,by have:=HG.o.kS (n:=n) (by omega) (by have:=HN.o;omega);omega,by have:=HG.o.kS (n:=n) (by omega) (by have:=HN.o;omega);omega⟩;have HCU:=zq hcu;have MG:=zq (IV.o.bY.mY HG.o.mY);have MN:=zq (show n<M'.af.length from by rw[IV.o.bY.af];exact HN.o);have CCU:=zq (fun W2 (F:dA w R0 ((b, 57,V'.cells M')::((W'.heap.size, 50,#[.int .i64 (pa:Int),.int .i64 pi,.int .i64 pq])::(bi, 66,#[.int .i64 I.kind,.int .i64 (m:Int),.int .i64 I.mult,.int .i64 I.strike,.int .i64 I.aJ,.bool I.call,.int .i64 I.mark])::bs)) V' M' W2)=>xA W2 b V' M' (F.at_.get 0 rfl) F.own.led MG.o n MN.o);rw[IV.o.bY.cZ,hcu.1] at CCU;have CWO:=zq (fun W2 (F:dA w R0 ((b, 57,V'.cells M')::((W'.heap.size, 50,#[.int .i64 (pa:Int),.int .i64 pi,.int .i64 pq])::(bi, 66,#[.int .i64 I.kind,.int .i64 (m:Int),.int .i64 I.mult,.int .i64 I.strike,.int .i64 I.aJ,.bool I.call,.int .i64 I.mark])::bs)) V' M' W2)=>rJ W2 b V' M' (F.at_.get 0 rfl) F.own.led MG.o n MN.o pq (now - I.mark) (rF (by have:=HQ.o;have:=PQ.o;omega) (by have:=HQ.o;have:=PQ.o;omega)) ⟨by have:=NB.o;have:=HNOW.o;omega,by have:=NB.o;have:=HNOW.o;omega⟩);rw[IV.o.bY.ins_eq,<-EI.o,hx] at CWO;have CPA:=zq (fun W2 (F:dA w R0 ((b, 57,V'.cells M')::((W'.heap.size, 50,#[.int .i64 (pa:Int),.int .i64 pi,.int .i64 pq])::(bi, 66,#[.int .i64 I.kind,.int .i64 (m:Int),.int .i64 I.mult,.int .i64 I.strike,.int .i64 I.aJ,.bool I.call,.int .i64 I.mark])::bs)) V' M' W2) (hx:I64 x)=>uJ w W2 R0 b _ V' M' F MG.o cu 0 pa (by rw[IV.o.bY.aS];exact HCU.o.2) (by rw[IV.o.bY.len];have:=AC.o;omega) (by rw[IV.o.bY.len];exact HPA.o.2.2) x hx)
   simp only[show ((0:Nat):Int)=0 from rfl] at CPA
   have XF:=zq (show er=0->I64 x from fun h=>by
    subst h;unfold dP at hx;rcases jc pq I.mult with ⟨h1,_⟩|h1
    ·rw[if_pos h1] at hx;rcases jc (eU pq I.mult).1 (now - I.mark) with ⟨_,h2⟩|h2
     ·rw[hx] at h2;exact I64.bQ h2
     rw[h2] at hx;injection hx with _ h;cases h
    rw[h1] at hx;simp at hx)
   clear hcu hx;have diff:IntKind.i64.wrap (now - I.mark)=now - I.mark:=by rw[IntKind.wrap_i64];have:=NB.o;have:=HNOW.o;omega
   have IP:=zq (IV.o.more 50 #[.int .i64 (pa:Int),.int .i64 pi,.int .i64 pq])
   go_upto_region 7 with (fail)
   obtain⟨W1,hW1⟩:=Zn (W'.alloc (.cells #[.int .i64 (pa:Int),.int .i64 pi,.int .i64 pq] 50));obtain⟨bq,hbq⟩:=Zn W'.heap.size;rw[<-hW1,<-hbq] at IP;rw[<-hbq] at CCU CWO CPA;rw[<-hW1,<-hbq];clear hW1 hbq q0 q1 q2;have PD:=zq (IP.o.Bc ((Mod.refl (fun _=>False) W1).drew).aQ);obtain⟨WD,hWD⟩:=Zn W1.drew;have CL:=zq (show ∀ W2,dA w R0 ((b, 57,V'.cells M')::((bq, 50,#[.int .i64 (pa:Int),.int .i64 pi,.int .i64 pq])::(bi, 66,#[.int .i64 I.kind,.int .i64 (m:Int),.int .i64 I.mult,.int .i64 I.strike,.int .i64 I.aJ,.bool I.call,.int .i64 I.mark])::bs)) V' M' W2->(fun W2:World=>W2.cell? ⟨bq,0,none⟩=some (.int .i64 (pa:Int))/\W2.cell? ⟨bq,2,none⟩=some (.int .i64 pq)/\W2.cell? ⟨bi,6,none⟩=some (.int .i64 I.mark)) W2 from fun W2 F=>⟨F.at_.cell 1 rfl 0 rfl,F.at_.cell 1 rfl 2 rfl,F.at_.cell 2 rfl 6 rfl⟩);rw[<-hWD] at PD;have j0:∀ z:bZ (fun W2:World=>W2.cell? ⟨bq,0,none⟩=some (.int .i64 (pa:Int))/\W2.cell? ⟨bq,2,none⟩=some (.int .i64 pq)/\W2.cell? ⟨bi,6,none⟩=some (.int .i64 I.mark)),z.w.cell? ⟨bq,0,none⟩=some (.int .i64 (pa:Int)):=fun z=>z.ok.1
   have j2:∀ z:bZ (fun W2:World=>W2.cell? ⟨bq,0,none⟩=some (.int .i64 (pa:Int))/\W2.cell? ⟨bq,2,none⟩=some (.int .i64 pq)/\W2.cell? ⟨bi,6,none⟩=some (.int .i64 I.mark)),z.w.cell? ⟨bq,2,none⟩=some (.int .i64 pq):=fun z=>z.ok.2.1
   have j6:∀ z:bZ (fun W2:World=>W2.cell? ⟨bq,0,none⟩=some (.int .i64 (pa:Int))/\W2.cell? ⟨bq,2,none⟩=some (.int .i64 pq)/\W2.cell? ⟨bi,6,none⟩=some (.int .i64 I.mark)),z.w.cell? ⟨bi,6,none⟩=some (.int .i64 I.mark):=fun z=>z.ok.2.2
   haveI ne:Nonempty (bZ (fun W2:World=>W2.cell? ⟨bq,0,none⟩=some (.int .i64 (pa:Int))/\W2.cell? ⟨bq,2,none⟩=some (.int .i64 pq)/\W2.cell? ⟨bi,6,none⟩=some (.int .i64 I.mark))):=⟨⟨WD,CL.o _ PD.o.fM⟩⟩
   refine aF.aW (C:=fun w'=>∃ z:bZ (fun W2:World=>W2.cell? ⟨bq,0,none⟩=some (.int .i64 (pa:Int))/\W2.cell? ⟨bq,2,none⟩=some (.int .i64 pq)/\W2.cell? ⟨bi,6,none⟩=some (.int .i64 I.mark)),w'=z.w) [3,12,15] [0,4,5,6,7,8,9,10,11,13,14] (.step 0 (.step 1 (.step 2 (.step 4 (.step 5 (.step 6 (.step 7 (.step 8 (.step 9 (.step 10 (.step 11 (.step 13 (.step 14 (.step 3 (.step 12 (.step 15 .leaf)))))))))))))))) (fun ch d w'=>d=[]/\yQ w W R0 b bs V n S (.panicked ch) w') (by kernel_rfl) (fun _ _ _ h=>⟨h.1,h.2⟩) (by kernel_rfl) ⟨⟨W1.drew,by rw[<-hWD];exact CL.o _ PD.o.fM⟩,rfl⟩ ?_;rw[<-hWD];clear hWD;refine aF.bF [0] (by kernel_rfl) ?_
   simp only[ay,nth]
   repeat (go_big_quiet_step (fail))
   refine wpQuiet_nil ?_;refine aF.aC [1,2] (by kernel_rfl) ?_
   simp only[ay,nth]
   repeat (go_big_quiet_step (fail))
   refine wpQuiet_nil ?_;refine aF.bF [4,5,6,7,8,9,10,11,13,14] (by kernel_rfl) ?_
   simp only[ay,nth]
   repeat (go_big_quiet_step (fail))
   refine wpQuiet_nil ?_;clear j0 j2 j6;refine aF.aK (by kernel_rfl) rfl (fun K hK=>?_)
   simp only[ay,nth]
   refine aA ?_;go_simp;refine (CCU.o _ PD.o.fM).mono ?_;rintro e w3 ⟨rfl,hb⟩;have P3:=zq (PD.o.Bc hb);clear hb;go_simp;refine hK _ _ (fun _=>⟨⟨_,CL.o _ P3.o.fM⟩,rfl⟩) ?_;clear hK;refine aF.aK (by kernel_rfl) rfl (fun K hK=>?_)
   simp only[ay,nth]
   refine aA ?_;go_simp;refine (CWO.o _ P3.o.fM).mono ?_;rintro e w4 ⟨ho,hb⟩;have P4:=zq (P3.o.Bc hb);clear hb;rcases ho with ⟨hz,rfl⟩|⟨hz,rfl⟩;rotate_left
   ·have GO:=zq (show dw f c 0 L.au L=(aI.none,er) from by rw[<-P4.o.go,drop_at HP.o,qV SP.o hz]);exact⟨rfl,Or.inr ⟨by rw[ES.o,GO.o,if_neg hz];exact hz,by rw[ES.o,GO.o,if_neg hz],P4.o.fM.at_.sub (((List.sublist_cons_self _ _).trans (List.sublist_cons_self _ _)).trans (List.sublist_cons_self _ _))⟩⟩
   simp only at hz
   have XI:=zq (XF.o hz);have HZ:=zq hz;clear hz;go_simp;refine hK _ _ (fun _=>⟨⟨_,CL.o _ P4.o.fM⟩,rfl⟩) ?_;clear hK;refine aF.bW (by kernel_rfl) rfl (by kernel_rfl) (fun K hK=>?_)
   simp only[ay,nth]
   refine aA ?_;go_simp;refine (CPA.o _ P4.o.fM XI.o).mono ?_;rintro e w5 ⟨hmo,ho⟩;have M5:=zq hmo;clear hmo;have EP:=zq (show fJ M' (cu:Int) x 0 (pa:Int)=fJ M' (c p) (x,er).1 0 p.ak from by rw[EC.o,HCU.o.1,HPA.o.1]);rcases ho with ⟨hz,rfl,V5,F5,O5⟩|⟨hz,rfl,F5⟩;rotate_left
   ·have GO:=zq (show dw f c 0 L.au L=(aI.none,(fJ M' (cu:Int) x 0 (pa:Int)).2) from by rw[<-P4.o.go,drop_at HP.o,oV SP.o HZ.o (by rw[<-EP.o];exact hz),<-EP.o]);exact⟨rfl,Or.inr ⟨by rw[ES.o,GO.o,if_neg hz];exact hz,by rw[ES.o,GO.o,if_neg hz],F5.at_.sub (((List.sublist_cons_self _ _).trans (List.sublist_cons_self _ _)).trans (List.sublist_cons_self _ _))⟩⟩
   have P5:=zq (P4.o.next HP.o SP.o HZ.o (by rw[<-EP.o];exact hz) ⟨by decide,AC.o⟩ (by rw[HPA.o.1];have:=HPA.o.2;omega) (by rw[<-EP.o];exact F5) (by rw[<-EP.o];exact O5) (Below.refl _ _) M5.o);clear F5 O5 hz;go_simp;refine hK _ _ ?_;clear hK;refine aF.aZ ?_
   go_wp2_with fail
   go_roundw
   case rel=>exact⟨k+1,by have:=LT.o;omega,by go_num,_,rfl,zq ⟨_,_,P5.o.less⟩⟩
   case measure=>have:=LT.o;simp[intOf];omega
  have qq:(pi==(n:Int))=false:=by simp[hin]
  have SP:=zq (show f p=none from by rw[SFp.o,if_neg hin]);have NX:=zq (fun cs=>IV.o.skip HP.o SP.o ((Zb):Below W'.heap.size W' (W'.alloc (.cells cs 50))));clear SFp hin
  go_wp2_with fail
  go_roundw
  case rel=>exact⟨k+1,by have:=LT.o;omega,by go_num,_,rfl,zq ⟨V',M',NX.o _⟩⟩
  case measure=>have:=LT.o;simp[intOf];omega
 have hlt':¬ (k:Int)<(n5:Int):=by omega
 have EN:=zq (IV.o.ended (by rw[<-N5.o];omega));have ES2:=zq (show S=({ M' with af:=L.af.set n { L.ins n with mark:=now } },0) from by rw[ES.o,EN.o,if_pos rfl]);have FE:=zq IV.o.fM.drop1;have MN:=zq (show M'.af[n]?=some (L.ins n) from by rw[IV.o.bY.af];exact aI.gX HN.o);obtain⟨g,c3',hv,hcl,_,_,hz⟩:=FE.o.own.af.block MN.o;have HV:=zq hv;have ML:=zq (show M'.af.length=n3 from by rw[IV.o.bY.af,N3.o]);have y3:W'.cell? ⟨b,3,none⟩=some (.slice (some ⟨g,0,none⟩) n3 c3'):=by rw[<-ML.o,<-hv];exact FE.o.at_.cell 0 rfl 3 rfl
 have z3:W'.frozen? ⟨g,n*7+6,none⟩=false:=hz _;obtain⟨u6,hu6⟩:∃ u,W'.cell? ⟨g,n*7+6,none⟩=some u:=by
  have hR:=FE.o.own.led.af;rw[hv] at hR;have:=hR.near MN.o (j:=6) rfl;rw[Nat.zero_add] at this;exact⟨_,this⟩
 have IVE:=zq IV.o;clear hv hcl hz hlt hk IV
 go_wp2_with fail
 go_end0
 refine Or.inl ⟨by rw[ES2.o],rfl,?_,V',?_,IVE.o.ins⟩
 ·intro g' o u hc hgb ho;have h1:=IVE.o.mod.cell hc hgb;by_cases hg:g'=g/\o=n*7+6
  ·obtain⟨rfl,rfl⟩:=hg;rcases IVE.o.ins with hi|hi
   ·exact absurd rfl (ho (by rw[<-hi,HV.o];rfl))
   have:=hi g' (by rw[HV.o];rfl);have:=lt_of_cell hc;omega
  have e:((⟨g,n*7+6,none⟩:Addr)≠⟨g',o,none⟩):=by intro e;injection e with e1 e2;exact hg ⟨e1.symm,e2.symm⟩
  rw[World.cell?_setCell_other _ _ _ _ e];exact h1
 rw[ES2.o];have:=FE.o.mark HV.o MN.o now;rw[IVE.o.bY.af] at this;exact this
end Go.Proofs.YtcepekniflaoaaaGreatDoor
