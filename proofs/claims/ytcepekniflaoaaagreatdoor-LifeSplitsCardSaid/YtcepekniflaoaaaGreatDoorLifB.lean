/- life's turn: pay, cur, worth, over; shares, less. -/
import Derived.Test.YtcepekniflaoaaaGreatDoorHc
import Derived.Test.YtcepekniflaoaaaGreatDoorGc
import Derived.Test.YtcepekniflaoaaaGreatDoorHp
set_option linter.unusedVariables false
set_option linter.unusedSimpArgs false
set_option maxRecDepth 100000
set_option maxHeartbeats 2000000
namespace Go.Proofs.YtcepekniflaoaaaGreatDoor
open Go.RowKit Go.Bw Go.Maps Go.Shelf Go.Bw.Fall
def NumOut (w:World) (r:Int×Int) (e:Ending) (w':World):Prop:=((r.2=0/\e=.returned (.int .i64 r.1))\/(r.2≠0/\e=.panicked (jv r.2)))/\Below w.heap.size w w'
theorem Ce (W:World) (b:Nat) (V:aB) (L:aH) (hb:W.heap[b]?=some (.cells (V.cells L) 57 (0,0))) (h:bK W V L) (hG:L.gZ) (n:Nat) (hn:n<L.af.length) :
 Calls Tryz.prog 46 #[.pointer (some ⟨b,0,none⟩),.int .i64 (n:Int)] W fun e w'=>e=.returned (.int .i64 (L.dG n))/\Below W.heap.size W w':=by
 obtain⟨m,e1,hm,hu⟩:=hG.Oj hn;obtain⟨b3,o3,c3,e3,h3⟩:=h.af.place (aH.jE hn);obtain⟨b2,o2,c2,e2,h2⟩:=h.ah.place hu;obtain⟨n3,hn3⟩:=Zn L.af.length;obtain⟨n2,hn2⟩:=Zn L.ah.length;rw[<-hn3] at e3 hn;rw[<-hn2] at e2 hm;obtain⟨r,hr⟩:=Zn (L.dG n);have y3:W.cell? ⟨b,3,none⟩=some (.slice (some ⟨b3,o3,none⟩) n3 c3):=by rw[<-e3];exact sK hb rfl
 have y2:W.cell? ⟨b,2,none⟩=some (.slice (some ⟨b2,o2,none⟩) n2 c2):=by rw[<-e2];exact sK hb rfl
 have q1:W.cell? ⟨b3,o3+n*7+1,none⟩=some (.int .i64 (m:Int)):=by rw[<-e1];exact h3 1 _ rfl
 have q2:W.cell? ⟨b2,o2+m*4+1,none⟩=some (.int .i64 r):=by rw[hr];exact h2 1 _ rfl
 rw[<-hr];have k0:(0:Int)<=(n:Int):=by omega
 have k1:(n:Int)<(n3:Int):=by omega
 have m0:(0:Int)<=(m:Int):=by omega
 have m1:(m:Int)<(n2:Int):=by omega
 clear hb h hG hu h3 h2 hn3 hn2 e1 e2 e3 hr hn hm
 go_enter Tryz.func46,Tryz.ntmps46
 go_wp2_with fail
 refine aI.wz [] [] (.step 0 (.step 1 (.step 2 (.step 3 (.step 4 (.step 5 (.step 6 (.step 7 (.step 8 (.step 9 (.step 10 (.step 11 (.step 12 (.step 13 (.step 14 (.step 15 (.step 16 (.step 17 .leaf)))))))))))))))))) (by kernel_rfl) (by kernel_rfl) ?_;refine aI.aC [0,1,2,3,4,5,6,7,8,9,10,11,12,13,14,15,16,17] (by kernel_rfl) ?_
 simp only[ay,nth]
 repeat (go_big_quiet_step (fail))
 refine wpQuiet_nil ?_;refine aI.bH ?_
 go_wp2_with fail
 go_ret;exact⟨rfl,((Mod.refl (fun _=>False) W).drew).aU⟩
theorem nU (W:World) (b:Nat) (V:aB) (L:aH) (hb:W.heap[b]?=some (.cells (V.cells L) 57 (0,0))) (h:bK W V L) (n:Nat) (hn:n<L.af.length) (u:Int) :
 Calls Tryz.prog 25 #[.pointer (some ⟨b,0,none⟩),.int .i64 (n:Int),.int .i64 u] W fun e w'=>e=.returned (.bool (L.over u n))/\W=w':=by
 obtain⟨b3,o3,c3,e3,h3⟩:=h.af.place (aH.jE hn);obtain⟨n3,hn3⟩:=Zn L.af.length;rw[<-hn3] at e3 hn;have y3:W.cell? ⟨b,3,none⟩=some (.slice (some ⟨b3,o3,none⟩) n3 c3):=by rw[<-e3];exact sK hb rfl
 obtain⟨m,hm⟩:=Zn ((L.ins n).under);have q1:W.cell? ⟨b3,o3+n*7+1,none⟩=some (.int .i64 m):=by rw[hm];exact h3 1 _ rfl
 obtain⟨B,hB⟩:=Zn (L.over u n);have qq:(m==u)=B:=by rw[hB,hm];unfold aH.over;by_cases e:(L.ins n).under=u <;> simp[e]
 rw[<-hB];have k0:(0:Int)<=(n:Int):=by omega
 have k1:(n:Int)<(n3:Int):=by omega
 clear hb h h3 hn3 e3 hm hB hn
 go_enter Tryz.func25,Tryz.ntmps25
 go_wp2_with fail
 go_ret;exact⟨rfl,rfl⟩
theorem xH (W:World) (b:Nat) (V:aB) (L:aH) (hb:W.heap[b]?=some (.cells (V.cells L) 57 (0,0))) (h:bK W V L) (hG:L.gZ) (n:Nat) (hn:n<L.af.length) (q v:Int) (hq:aO q=true) (hv:I64 v) :
 Calls Tryz.prog 47 #[.pointer (some ⟨b,0,none⟩),.int .i64 (n:Int),.int .i64 q,.int .i64 v] W (NumOut W (dZ (L.ins n) q v)):=by
 obtain⟨b3,o3,c3,e3,h3⟩:=h.af.place (aH.jE hn);obtain⟨n3,hn3⟩:=Zn L.af.length;have hi:=hG.xw hn;rw[<-hn3] at e3 hn;have y3:W.cell? ⟨b,3,none⟩=some (.slice (some ⟨b3,o3,none⟩) n3 c3):=by rw[<-e3];exact sK hb rfl
 obtain⟨r,er,hr⟩:∃ r er,dZ (L.ins n) q v=(r,er):=⟨_,_,rfl⟩;obtain⟨m,hm⟩:=Zn ((L.ins n).mult);have q1:W.cell? ⟨b3,o3+n*7+2,none⟩=some (.int .i64 m):=by rw[hm];exact h3 2 _ rfl
 have PR:=zq (fun (w2:World) (a:Value) (hR:Reads w2 1 a [q,m,v].length (dR [q,m,v]))=>y9 w2 a [q,m,v] hR (by
  intro x hx
  simp only[List.mem_cons,List.not_mem_nil,or_false] at hx
  rcases hx with rfl|rfl|rfl
  ·exact I64.bU hq
  ·rw[hm];have:=hi.2.2.1;have:=hi.2.2.2.1;exact⟨by omega,by omega⟩
  exact hv) (by simp))
 rw[show jZ [q,m,v] 1=(r,er) from by rw[hm,Dk hq,hr]] at PR;rw[hr];have k0:(0:Int)<=(n:Int):=by omega
 have k1:(n:Int)<(n3:Int):=by omega
 clear hb h hG h3 hn3 e3 hm hr hi hn hq hv
 go_enter Tryz.func47,Tryz.ntmps47
 go_wp2_with fail
 refine (PR.o _ _ ?_).mono ?_
 ·refine⟨by simp[dR],Or.inr ⟨⟨W.heap.size,0,none⟩,3,rfl,fun j u hj=>?_⟩⟩;rw[add_plain];have:=cell_of_heap (heap_alloc_new W (.cells #[.int .i64 q,.int .i64 m,.int .i64 v] 3)) (0+j);rw[this,Nat.zero_add]
  simpa [dR] using hj
 rintro e w' ⟨rfl,rfl⟩;have BB:=zq (show Below W.heap.size W (W.alloc (.cells #[.int .i64 q,.int .i64 m,.int .i64 v] 3)) from Zb);by_cases hz:er=0
 ·subst hz
  go_wp2_with fail
  refine (qw r _).mono ?_;rintro e w' ⟨rfl,rfl⟩
  go_wp2_with fail
  go_ret;exact⟨Or.inl ⟨rfl,rfl⟩,BB.o⟩
 have HZ:=zq hz;clear hz
 go_wp2_with fail
 refine (nT r er HZ.o _).mono ?_;rintro e w' ⟨rfl,rfl⟩
 go_wp2_with fail
 exact⟨rfl,Or.inr ⟨HZ.o,rfl⟩,BB.o⟩
theorem kP (w:World) (n:Nat):Below w.heap.size w (w.drewN n):=by
 induction n with
 | zero=>exact Below.refl _ _
 | succ n ih=>exact ((Mod.of_below ih).drew).aU
theorem vJ (q num den:Int) (h0:0<=q) (h1:1<=num) (h2:1<=den) (hq:I64 q) (hn:I64 num) (hd:I64 den) (W:World) :
 Calls Tryz.prog 27 #[.int .i64 q,.int .i64 num,.int .i64 den] W (NumOut W (bY num den q)):=by
 have MD:=zq (fun w=>lu q num den 2 hq hn hd w);obtain⟨x,er,hx⟩:∃ x er,iT q num den 2=(x,er):=⟨_,_,rfl⟩;have hp:=Iu (m:=2) h0 (by omega:0<=num) (by omega:0<=den);rw[hx] at MD hp;have SH:=zq (show bY num den q=if er=0 then (if x<=1000000000 then (x,0) else (0,36)) else (0,er) from by
  unfold bY;rw[hx]
  simp only
  by_cases he:er=0
  ·rw[if_pos he,if_pos he];by_cases h3:x<=1000000000
   ·rw[if_pos h3,if_pos ⟨by simp only at hp;omega,h3⟩]
   rw[if_neg h3,if_neg (fun h=>h3 h.2)]
  rw[if_neg he,if_neg he])
 obtain⟨S,hS⟩:=Zn (bY num den q);rw[<-hS] at SH ⊢;clear hS hx hp h0 h1 h2 hq hn hd
 go_enter Tryz.func27,Tryz.ntmps27
 go_wp2_with fail
 refine (MD.o _).mono ?_;rintro e w' ⟨rfl,k,rfl⟩;have BB:=zq (kP W k);obtain⟨WD,hWD⟩:=Zn (W.drewN k);rw[<-hWD] at BB ⊢;clear hWD MD;by_cases hz:er=0
 ·subst hz
  go_wp2_with fail
  refine (qw x _).mono ?_;rintro e w' ⟨rfl,rfl⟩
  go_wp2_with fail
  refine (kT (x<=1000000000) 36 _).mono ?_;rintro e w' ⟨he,rfl⟩;rcases Or.symm he with ⟨hlt,rfl⟩|⟨hlt,rfl⟩
  ·have HZ:=zq hlt;clear he hlt
   go_wp2_with fail
   rw[SH.o,if_pos (by first|rfl|trivial),if_neg (by have:=HZ.o;omega)];exact⟨rfl,Or.inr ⟨by decide,rfl⟩,BB.o⟩
  have HZ:=zq hlt;clear he hlt
  go_wp2_with fail
  go_ret;rw[SH.o,if_pos (by first|rfl|trivial),if_pos (by have:=HZ.o;omega)];exact⟨Or.inl ⟨rfl,rfl⟩,BB.o⟩
 have HZ:=zq hz;clear hz
 go_wp2_with fail
 refine (nT x er HZ.o _).mono ?_;rintro e w' ⟨rfl,rfl⟩
 go_wp2_with fail
 rw[SH.o,if_neg HZ.o];exact⟨rfl,Or.inr ⟨HZ.o,rfl⟩,BB.o⟩
theorem zl (pn pd:Nat) (num den v:Int) (hv:I64 v) (hn:I64 num) (hd:I64 den) (W:World) (c1:W.cell? ⟨pn,0,none⟩=some (.int .i64 num)) (c2:W.cell? ⟨pd,0,none⟩=some (.int .i64 den)) :
 Calls Tryz.prog 21 #[.int .i64 v,.pointer (some ⟨pd,0,none⟩),.pointer (some ⟨pn,0,none⟩)] W (NumOut W (eU num den v)):=by
 have MD:=zq (fun w=>lu v den num 0 hv hd hn w);obtain⟨x,er,hx⟩:∃ x er,eU num den v=(x,er):=⟨_,_,rfl⟩;rw[show iT v den num 0=(x,er) from hx] at MD;rw[hx];clear hx hv hn hd
 go_enter Tryz.func21,Tryz.ntmps21
 go_wp2_with fail
 refine (MD.o _).mono ?_;rintro e w' ⟨rfl,k,rfl⟩;have BB:=zq (kP W k);obtain⟨WD,hWD⟩:=Zn (W.drewN k);rw[<-hWD] at BB ⊢;clear hWD MD c1 c2;by_cases hz:er=0
 ·subst hz
  go_wp2_with fail
  refine (qw x _).mono ?_;rintro e w' ⟨rfl,rfl⟩
  go_wp2_with fail
  go_ret;exact⟨Or.inl ⟨rfl,rfl⟩,BB.o⟩
 have HZ:=zq hz;clear hz
 go_wp2_with fail
 refine (nT x er HZ.o _).mono ?_;rintro e w' ⟨rfl,rfl⟩
 go_wp2_with fail
 exact⟨rfl,Or.inr ⟨HZ.o,rfl⟩,BB.o⟩
def Ov (w W:World) (R0 b:Nat) (bs:List (Nat×TypeId×Array Value)) (V:aB) (L:aH) (r:aH×Int) (e:Ending) (W':World):Prop :=
 Mod (fun k=>k=b) W W'/\((r.2=0/\e=.returned (.tuple #[])/\∃ V',dB w R0 ((b, 57,V'.cells r.1)::bs) V' r.1 W'/\bF W' W.heap.size V' r.1)\/(r.2≠0/\e=.panicked (jv r.2)/\dB w R0 ((b, 57,V.cells L)::bs) V L W'))
theorem _root_.Go.Bw.dB.swap {w W W':World} {R0 b:Nat} {T:TypeId} {C:Array Value} {bs:List (Nat×TypeId×Array Value)} {V U:aB} {L M:aH} (F:dB w R0 ((b,T,C)::bs) V L W) (hb:Below W.heap.size W W') (own:bF W' W.heap.size U M) :
 dB w R0 ((b,T,U.cells M)::bs) U M (W'.setRow b (U.cells M)):=by
 have A:=F.at_.go hb;have hlt:=F.at_.lt;have Md:=bJ (w:=W') b (U.cells M);refine⟨A.setRow 0 rfl _,(own.mod Md (fun k hk _ e=>by subst e;have:=hlt (k,T,C) (by simp);simp only at this;omega)).base F.rb,fun x hx=>own.zu (Or.inl ?_),Nat.le_trans F.rb (Nat.le_trans hb.size Md.size),F.lo⟩;rcases List.mem_cons.1 hx with rfl|hx
 ·exact hlt (b,T,C) (by simp)
 exact hlt x (by simp[hx])
theorem zn (w W:World) (R0 b:Nat) (bs:List (Nat×TypeId×Array Value)) (V:aB) (L:aH) (F:dB w R0 ((b, 57,V.cells L)::bs) V L W) (hG:L.gZ) (c f t:Nat) (hc:c<L.aQ.length) (hf:f<L.ai.length) (ht:t<L.ai.length) (x:Int) (hx:I64 x) :
 Calls Tryz.prog 45 #[.pointer (some ⟨b,0,none⟩),.int .i64 (c:Int),.int .i64 x,.int .i64 (f:Int),.int .i64 (t:Int)] W (Ov w W R0 b bs V L (fP L c x f t)):=by
 have FF:=zq F;have PY:=zq (Nq W V L F.own.led hG c f t hc hf ht x hx);have LC:=zq (iC F.own.led);obtain⟨M,er,hM⟩:∃ M er,fP L c x f t=(M,er):=⟨_,_,rfl⟩;rw[hM] at PY ⊢;unfold aB.val at PY;clear F hG hc hf ht hx hM
 go_enter Tryz.func45,Tryz.ntmps45
 go_wp2_with (refine zk (FF.o.at_.get 0 rfl) LC.o rfl rfl rfl ?_)
 refine PY.o.mono ?_;rintro e w2 ⟨hb,ho⟩;have BB:=zq hb;clear hb PY;rcases ho with ⟨hz,U,rfl,own⟩|⟨hz,rfl⟩
 ·simp only at hz
  subst hz;have L2:=zq (iC own.led);have OW:=zq own;unfold aB.val;clear own;go_simp
  go_upto_region 1 with (refine aW (heap_alloc_last _ _) bG L2.o rfl rfl rfl rfl ?_;rw[World.setRow_alloc_new])
  obtain⟨W3,hW3⟩:=Zn (w2.alloc (.cells (U.cells M) 31));obtain⟨b3,hb3⟩:=Zn w2.heap.size;have B3:=zq (show Below w2.heap.size w2 W3 from by rw[hW3];exact Zb);have g3:=zq (show W3.heap[b3]?=some (.cells (U.cells M) 31 (0,0)) from by rw[hW3,hb3];exact heap_alloc_last _ _);have gb:=zq (show W3.heap[b]?=some (.cells (V.cells L) 57 (0,0)) from ((FF.o.at_.go BB.o).go B3.o).get 0 rfl);rw[<-hW3,<-hb3];clear hW3 hb3
  go_wp2_with fail
  refine (xA _).mono ?_;rintro e w' ⟨rfl,rfl⟩
  go_wp2_with (first|refine bW g3.o L2.o rfl rfl rfl ?_|refine Fg gb.o LC.o L2.o rfl rfl rfl rfl ?_)
  go_end0
  have B4:=(BB.o.trans (B3.o.mono BB.o.size));exact⟨((Mod.of_below B4).mono (T:=fun k=>k=b) (fun _ _ h=>h.elim)).trans (bJ b (U.cells M)) (fun _ _ h=>h),Or.inl ⟨rfl,rfl,U,FF.o.swap B4 (OW.o.below B3.o),(OW.o.below B3.o).mod (bJ b (U.cells M)) (fun k hk _ e=>by subst e;have:=FF.o.at_.lt (k, 57,V.cells L) (by simp);simp only at this;omega)⟩⟩
 simp only at hz
 have HZ:=zq hz;clear hz;go_simp
 go_upto_region 1 with (refine aW (cs:=aZ) (heap_alloc_last _ _) bG bG rfl rfl rfl rfl ?_;rw[World.setRow_alloc_new])
 obtain⟨W3,hW3⟩:=Zn (w2.alloc (.cells aZ 31));have B3:=zq (show Below w2.heap.size w2 W3 from by rw[hW3];exact Zb);rw[<-hW3];clear hW3
 go_wp2_with fail
 refine (uJ er HZ.o _).mono ?_;rintro e w' ⟨rfl,rfl⟩
 go_wp2_with fail
 have B4:=(BB.o.trans (B3.o.mono BB.o.size));exact⟨rfl,(Mod.of_below B4).mono (fun _ _ h=>h.elim),Or.inr ⟨HZ.o,rfl,FF.o.go B4⟩⟩
end Go.Proofs.YtcepekniflaoaaaGreatDoor
