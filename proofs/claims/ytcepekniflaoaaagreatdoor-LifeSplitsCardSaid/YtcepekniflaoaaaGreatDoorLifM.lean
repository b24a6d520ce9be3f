/- life's split of a position, what is kept behind a split. -/
import Derived.Test.YtcepekniflaoaaaGreatDoorHd
import Derived.Test.YtcepekniflaoaaaGreatDoorHp
set_option linter.unusedVariables false
set_option linter.unusedSimpArgs false
set_option maxRecDepth 100000
set_option maxHeartbeats 8000000
namespace Go.Proofs.YtcepekniflaoaaaGreatDoor
open Go.RowKit Go.Bw Go.Maps Go.Shelf Go.Bw.Fall
theorem Ad (W:World) (p:Pos):Calls Tryz.prog 30 #[.agg #[.int .i64 p.ak,.int .i64 p.instr,.int .i64 p.qty]] W fun e w'=>e=.returned (.bool (decide (p.qty≠0)))/\Below W.heap.size W w':=by
 obtain⟨B,hB⟩:=Zn (decide (p.qty≠0));obtain⟨q,hq⟩:=Zn p.qty;have qq:(q != 0)=B:=by rw[hB,<-hq];by_cases h:q=0 <;> simp[h]
 rw[<-hB,<-hq];clear hB hq;have BB:=zq (fun (c:Array Value)=>show Below W.heap.size W (W.alloc (.cells c 50)) from Zb)
 go_enter Tryz.func30,Tryz.ntmps30
 go_wp2_with fail
 go_ret;exact⟨rfl,BB.o _⟩
def wP (w W:World) (R0 b:Nat) (bs:List (Nat×TypeId×Array Value)) (V:aB) (M:aH) (x r:aH×Int) (pa pn:Nat) (q:Int) (e:Ending) (W':World):Prop :=
 Mod (fun k=>k=b) W W' /\
 ((x.2=0/\r.2=0/\e=.returned (.agg #[.int .i64 (pa:Int),.int .i64 (pn:Int),.int .i64 q])/\∃ V',dB w R0 ((b, 57,V'.cells r.1)::bs) V' r.1 W'/\bF W' W.heap.size V' r.1) \/
  (x.2≠0/\e=.panicked (jv x.2)/\At w W' bs)\/(x.2=0/\r.2≠0/\e=.panicked (jv r.2)/\At w W' bs))
theorem NQ:(Tryz.prog.underlying 50).map (fun d=>match d with|.struct _|.array _ _=>true|_=>false)=some true:=by kernel_rfl
theorem JV:∃ d,Tryz.prog.underlying 50=some d/\(match d with|.struct _|.array _ _=>true|_=>false)=true:=by
 have h:=NQ
 cases e:Tryz.prog.underlying 50 with
 | none=>rw[e] at h;cases h
 | some d=>rw[e] at h;exact⟨d,rfl,Option.some.inj h⟩
theorem NR:(Tryz.prog.info? 50).map (·.size)=some 3:=by kernel_rfl
theorem yN:Tryz.f28.results=#[.cell 10 50]:=by kernel_rfl
theorem IQ {a b x:Int} (h:fK a b=(x,0)):I64 x:=by
 have:=uS (a:=a) (b:=b) (by rw[h]);rw[h] at this;exact I64.bU this
theorem Fp (w W:World) (R0 b:Nat) (bs:List (Nat×TypeId×Array Value)) (V:aB) (M:aH) (F:dB w R0 ((b, 57,V.cells M)::bs) V M W) (hG:M.gZ) (pa pn:Nat) (hpa:pa<M.ai.length) (hpn:pn<M.af.length) (q:Int) (hq:-1000000000<=q/\q<=1000000000)
 (i:Ins) (num den:Int) (hi:M.ins pn=kS num den i) (hm:0<=i.mark/\i.mark<=100000000000000) (hn:1<=num/\num<=1000) (hd:1<=den/\den<=1000) (cu:Nat) (hcu:M.dG pn=cu) (h2:2<=M.ai.length) :
 Calls Tryz.prog 28 #[.pointer (some ⟨b,0,none⟩),.agg #[.int .i64 (pa:Int),.int .i64 (pn:Int),.int .i64 q],.agg #[.int .i64 i.kind,.int .i64 i.under,.int .i64 i.mult,.int .i64 i.strike,.int .i64 i.aN,.bool i.call,.int .i64 i.mark],.int .i64 num,.int .i64 den] W
  (wP w W R0 b bs V M (aH.none,(mr num den i q).2) (fP M cu (mr num den i q).1 1 pa) pa pn (bY num den q).1):=by
 have MK:=zq (show 0<=(M.ins pn).mark/\(M.ins pn).mark<=100000000000000 from ⟨(hG.xw hpn).2.2.2.2.1,(hG.xw hpn).2.2.2.2.2.1⟩);have CUR:=zq (fun W2 (F:dB w R0 ((b, 57,V.cells M)::(W.heap.size, 50,#[.int .i64 (pa:Int),.int .i64 (pn:Int),.int .i64 q])::(W.heap.size+1, 66,#[.int .i64 i.kind,.int .i64 i.under,.int .i64 i.mult,.int .i64 i.strike,.int .i64 i.aN,.bool i.call,.int .i64 i.mark])::(W.heap.size+1+1, 50,#[.int .i64 0,.int .i64 0,.int .i64 0])::bs) V M W2)=>Ce W2 b V M (F.at_.get 0 rfl) F.own.led hG pn hpn);rw[hcu] at CUR;have CWO:=zq (fun W2 (F:dB w R0 ((b, 57,V.cells M)::(W.heap.size, 50,#[.int .i64 (pa:Int),.int .i64 (pn:Int),.int .i64 q])::(W.heap.size+1, 66,#[.int .i64 i.kind,.int .i64 i.under,.int .i64 i.mult,.int .i64 i.strike,.int .i64 i.aN,.bool i.call,.int .i64 i.mark])::(W.heap.size+1+1, 50,#[.int .i64 0,.int .i64 0,.int .i64 0])::bs) V M W2) q (hq:-1000000000<=q/\q<=1000000000) v (hv:I64 v)=>xH W2 b V M (F.at_.get 0 rfl) F.own.led hG pn hpn q v (wX (by omega) (by omega)) hv);have hwi:∀ q v,dZ (M.ins pn) q v=dZ i q v:=fun q v=>by rw[hi];rfl
 simp only[hwi] at CWO
 have CPA:=zq (fun W2 (F:dB w R0 ((b, 57,V.cells M)::(W.heap.size, 50,#[.int .i64 (pa:Int),.int .i64 (pn:Int),.int .i64 q])::(W.heap.size+1, 66,#[.int .i64 i.kind,.int .i64 i.under,.int .i64 i.mult,.int .i64 i.strike,.int .i64 i.aN,.bool i.call,.int .i64 i.mark])::(W.heap.size+1+1, 50,#[.int .i64 0,.int .i64 0,.int .i64 0])::bs) V M W2) (x:Int) (hx:I64 x)=>zn w W2 R0 b _ V M F hG cu 1 pa (by obtain⟨c,e,h⟩:=hG.nK hpn;rw[hcu] at e;omega) (by omega) hpa x hx)
 simp only[show ((1:Nat):Int)=1 from rfl] at CPA
 have MD:=zq (fun w=>lu q num den 2 ⟨by omega,by omega⟩ ⟨by omega,by omega⟩ ⟨by omega,by omega⟩ w);have FF:=zq F;have HQ:=zq hq;have HM:=zq hm;have EMK:=zq (show (M.ins pn).mark=(eU num den i.mark).1 from by rw[hi];rfl);obtain⟨mk,hmk⟩:=Zn ((M.ins pn).mark);rw[<-hmk] at MK EMK;obtain⟨b3,o3,c3,e3,h3⟩:=F.own.led.af.place (aH.jE hpn);have E3:=zq e3;obtain⟨n3,hn3⟩:=Zn M.af.length;rw[<-hn3] at E3 hpn;have H6:=zq (show W.cell? ⟨b3,o3+pn*7+6,none⟩=some (.int .i64 mk) from by rw[hmk];exact h3 6 _ rfl)
 -- was
 obtain⟨x1,r1,hw1⟩:∃ x r,dZ i q i.mark=(x,r):=⟨_,_,rfl⟩;obtain⟨x2,r2,hw2⟩:∃ x r,iT q num den 2=(x,r):=⟨_,_,rfl⟩;obtain⟨x3,r3,hw3⟩:∃ x r,dZ i x2 mk=(x,r):=⟨_,_,rfl⟩;obtain⟨x4,r4,hw4⟩:∃ x r,fK x1 x3=(x,r):=⟨_,_,rfl⟩;obtain⟨LA,hLA⟩:=Zn (mr num den i q);obtain⟨SH,hSH⟩:=Zn ((bY num den q).1);have SS:=zq (show r2=0->(-1000000000<=x2/\x2<=1000000000)->bY num den q=(x2,0) from fun h1 h2=>by unfold bY;rw[hw2,if_pos h1,if_pos h2]);have L1:=zq (show r1≠0->LA=(0,r1) from fun h=>by rw[hLA];unfold mr;rw[hw1,if_neg h]);have L2:=zq (show r1=0->r2≠0->LA=(0,r2) from fun h h'=>by
  have e:bY num den q=(0,r2):=by unfold bY;rw[hw2,if_neg h']
  rw[hLA];unfold mr;rw[hw1,if_pos h,e,if_neg h'])
 have L3:=zq (show r1=0->r2=0->(x2 < -1000000000\/1000000000<x2)->LA=(0,36) from fun h h' h2=>by
  have e:bY num den q=(0,36):=by unfold bY;rw[hw2,if_pos h',if_neg (by simp only;omega)]
  rw[hLA];unfold mr;rw[hw1,if_pos h,e,if_neg (by decide)])
 have L4:=zq (show r1=0->r2=0->(-1000000000<=x2/\x2<=1000000000)->(r3≠0->LA=(0,r3))/\(r3=0->LA=(x4,r4)) from fun h h' h2=>by
  rw[hLA];unfold mr;rw[hw1,if_pos h,SS.o h' h2,if_pos rfl,<-EMK.o,hw3];exact⟨fun h=>by rw[if_neg h],fun h=>by rw[if_pos h,hw4]⟩)
 have I1:=zq (show r1=0->I64 x1 from fun h=>by
  subst h;unfold dZ at hw1;rcases jW q i.mult with ⟨h1,_⟩|h1
  ·rw[if_pos h1] at hw1;rcases jW (fG q i.mult).1 i.mark with ⟨_,h2⟩|h2
   ·rw[hw1] at h2;exact I64.bU h2
   rw[h2] at hw1;injection hw1 with _ h;cases h
  rw[h1] at hw1;simp at hw1)
 have I3:=zq (show r3=0->I64 x3 from fun h=>by
  subst h;unfold dZ at hw3;rcases jW x2 i.mult with ⟨h1,_⟩|h1
  ·rw[if_pos h1] at hw3;rcases jW (fG x2 i.mult).1 mk with ⟨_,h2⟩|h2
   ·rw[hw3] at h2;exact I64.bU h2
   rw[h2] at hw3;injection hw3 with _ h;cases h
  rw[h1] at hw3;simp at hw3)
 have I4:=zq (show r4=0->I64 x4 from fun h=>by subst h;exact IQ hw4);have C1:=zq (fun W2 F=>CWO.o W2 F q hq i.mark ⟨by omega,by omega⟩);rw[hw1] at C1;have C3:=zq (fun W2 F (h2:-1000000000<=x2/\x2<=1000000000)=>CWO.o W2 F x2 h2 mk ⟨by have:=MK.o;omega,by have:=MK.o;omega⟩);rw[hw3] at C3;rw[hw2] at MD;have SB:=zq (fun (h1:I64 x1) (h3:I64 x3) W=>nP x1 x3 h1 h3 W);rw[hw4] at SB;rw[<-hLA,<-hSH];have HSH:=zq hSH;obtain⟨W0,hW0⟩:=Zn (((W.alloc (.cells #[.int .i64 (pa:Int),.int .i64 (pn:Int),.int .i64 q] 50)).alloc (.cells #[.int .i64 i.kind,.int .i64 i.under,.int .i64 i.mult,.int .i64 i.strike,.int .i64 i.aN,.bool i.call,.int .i64 i.mark] 66)).alloc (.cells #[.int .i64 0,.int .i64 0,.int .i64 0] 50));obtain⟨bp,hbp⟩:=Zn W.heap.size;rw[<-hbp] at C1 C3 CPA CUR;have P0:=zq (show dB w R0 ((b, 57,V.cells M)::(bp, 50,#[.int .i64 (pa:Int),.int .i64 (pn:Int),.int .i64 q])::(bp+1, 66,#[.int .i64 i.kind,.int .i64 i.under,.int .i64 i.mult,.int .i64 i.strike,.int .i64 i.aN,.bool i.call,.int .i64 i.mark])::(bp+1+1, 50,#[.int .i64 0,.int .i64 0,.int .i64 0])::bs) V M W0 from by
  have f:=((F.add1 50 #[.int .i64 (pa:Int),.int .i64 (pn:Int),.int .i64 q]).add1 66 #[.int .i64 i.kind,.int .i64 i.under,.int .i64 i.mult,.int .i64 i.strike,.int .i64 i.aN,.bool i.call,.int .i64 i.mark]).add1 50 #[.int .i64 0,.int .i64 0,.int .i64 0];have e:∀ (w:World) (o:Obj),(w.alloc o).heap.size=w.heap.size+1:=fun w o=>by simp
  simp only[e] at f
  rw[<-hW0,<-hbp] at f;refine f.perm (List.Perm.cons _ ?_);exact (List.Perm.swap _ _ _).trans ((List.Perm.cons _ (List.Perm.swap _ _ _)).trans (List.Perm.swap _ _ _)))
 have M0:=zq (show Mod (fun k=>k=b) W W0 from by rw[hW0];exact ((Mod.refl _ W).alloc _ |>.alloc _).alloc _);have HB:=zq hbp;have H60:=zq (show W0.cell? ⟨b3,o3+pn*7+6,none⟩=some (.int .i64 mk) from M0.o.cell H6.o (fun e=>by
  have:=F.uq (b, 57,V.cells M) (by simp) V.af (by simp[aB.rows]);exact this (by rw[e3];exact congrArg some e)))
 clear F hG hpa hi hm hn hd hcu h2 hw1 hw2 hw3 hw4 hLA hSH hq hmk h3 hn3 e3 hwi CWO
 go_enter Tryz.func28,Tryz.ntmps28
 go_upto_region 1 with (fail)
 rw[<-hW0,<-hbp];clear hW0 hbp;have INX:=zq (show (-1000000000<=x2/\x2<=1000000000)\/(x2 < -1000000000\/1000000000<x2) from by omega);have DROP:=zq (show ∀ (C:Array Value) W2,At w W2 ((b, 57,C)::(bp, 50,#[.int .i64 (pa:Int),.int .i64 (pn:Int),.int .i64 q])::(bp+1, 66,#[.int .i64 i.kind,.int .i64 i.under,.int .i64 i.mult,.int .i64 i.strike,.int .i64 i.aN,.bool i.call,.int .i64 i.mark])::(bp+1+1, 50,#[.int .i64 0,.int .i64 0,.int .i64 0])::bs)->At w W2 bs from fun _ _ a=>a.sub ((((List.sublist_cons_self _ _).trans (List.sublist_cons_self _ _)).trans (List.sublist_cons_self _ _)).trans (List.sublist_cons_self _ _)));have z1:W0.cell? ⟨bp,1,none⟩=some (.int .i64 (pn:Int)):=P0.o.at_.cell 1 rfl 1 rfl;have z2:W0.cell? ⟨bp,2,none⟩=some (.int .i64 q):=P0.o.at_.cell 1 rfl 2 rfl;have z6:W0.cell? ⟨bp+1,6,none⟩=some (.int .i64 i.mark):=P0.o.at_.cell 2 rfl 6 rfl
 go_wp2_with fail
 refine (C1.o W0 P0.o).mono ?_;rintro e w1 ⟨ho,hb⟩;have P1:=zq (P0.o.go hb);have M1:=zq (M0.o.trans (Mod.of_below hb) (fun _ _ h=>h.elim));have H61:=zq ((Mod.of_below hb).cell H60.o (fun h=>h));clear hb z1 z2 z6 C1 P0 M0 H60;rcases ho with ⟨hz,rfl⟩|⟨hz,rfl⟩;rotate_left
 ·have HZ:=zq hz;have EL:=zq (L1.o hz);clear hz
  go_wp2_with fail
  exact⟨rfl,M1.o,Or.inr (Or.inl ⟨by rw[EL.o];exact HZ.o,by rw[EL.o],DROP.o _ _ P1.o.at_⟩)⟩
 try simp only at hz
 have Z1:=zq hz;have X1:=zq (I1.o hz);clear hz L1 I1;have z2:w1.cell? ⟨bp,2,none⟩=some (.int .i64 q):=P1.o.at_.cell 1 rfl 2 rfl
 go_wp2_with fail
 refine (MD.o _).mono ?_;rintro e w' ⟨rfl,kd,rfl⟩;have P2:=zq (P1.o.go (kP w1 kd));have M2:=zq (M1.o.trans (Mod.of_below (kP w1 kd)) (fun _ _ h=>h.elim));have H62:=zq ((Mod.of_below (kP w1 kd)).cell H61.o (fun h=>h));obtain⟨W2,hW2⟩:=Zn (w1.drewN kd);rw[<-hW2] at P2 M2 H62 ⊢;clear hW2 z2 P1 M1 H61 MD;by_cases hr2:r2=0;rotate_left
 ·have HZ:=zq hr2;have EL:=zq (L2.o Z1.o hr2);clear hr2
  go_wp2_with fail
  refine (nT x2 r2 HZ.o _).mono ?_;rintro e w' ⟨rfl,rfl⟩
  go_wp2_with fail
  exact⟨rfl,M2.o,Or.inr (Or.inl ⟨by rw[EL.o];exact HZ.o,by rw[EL.o],DROP.o _ _ P2.o.at_⟩)⟩
 have Z2:=zq hr2;have K3:=zq (L3.o Z1.o hr2);have K4:=zq (L4.o Z1.o hr2);have KS:=zq (SS.o hr2);subst hr2;clear L2 L3 L4 SS
 go_wp2_with fail
 refine (qw x2 _).mono ?_;rintro e w' ⟨rfl,rfl⟩;rcases INX.o with hin|hin;rotate_left
 ·have EL:=zq (K3.o hin);by_cases h1:-1000000000<=x2
  ·have h2:decide (x2<=1000000000)=false:=Zf (by omega);have h1':decide (-1000000000<=x2)=true:=decide_eq_true h1;clear hin h1
   go_wp2_with fail
   refine (fZ 36 _).mono ?_;rintro e w' ⟨rfl,rfl⟩
   go_wp2_with fail
   exact⟨rfl,M2.o,Or.inr (Or.inl ⟨by rw[EL.o];decide,by rw[EL.o],DROP.o _ _ P2.o.at_⟩)⟩
  have h2:decide (-1000000000<=x2)=false:=decide_eq_false h1;clear hin h1
  go_wp2_with fail
  refine (fZ 36 _).mono ?_;rintro e w' ⟨rfl,rfl⟩
  go_wp2_with fail
  exact⟨rfl,M2.o,Or.inr (Or.inl ⟨by rw[EL.o];decide,by rw[EL.o],DROP.o _ _ P2.o.at_⟩)⟩
 have HIN:=zq hin;have K5:=zq (K4.o hin);have ESH:=zq (show SH=x2 from by rw[HSH.o,KS.o hin]);have h1:decide (-1000000000<=x2)=true:=decide_eq_true hin.1;have h2:decide (x2<=1000000000)=true:=decide_eq_true hin.2;clear hin K3 K4 KS
 go_wp2_with fail
 refine (kU 36 _).mono ?_;rintro e w' ⟨rfl,rfl⟩;clear h1 h2;have z1:W2.cell? ⟨bp,1,none⟩=some (.int .i64 (pn:Int)):=P2.o.at_.cell 1 rfl 1 rfl;have y3:W2.cell? ⟨b,3,none⟩=some (.slice (some ⟨b3,o3,none⟩) n3 c3):=by rw[<-E3.o];exact P2.o.at_.cell 0 rfl 3 rfl
 have z6:W2.cell? ⟨b3,o3+pn*7+6,none⟩=some (.int .i64 mk):=H62.o;have k0:(0:Int)<=(pn:Int):=by omega
 have k1:(pn:Int)<(n3:Int):=by omega
 go_upto_region 4 with (fail)
 refine aI.aX (C:=fun w'=>True) [14] [] (.step 0 (.step 1 (.step 2 (.step 3 (.step 4 (.step 5 (.step 6 (.step 7 (.step 8 (.step 9 (.step 10 (.step 11 (.step 12 (.step 13 (.step 14 (.step 15 .leaf)))))))))))))))) (fun ch d w'=>d=[]/\wP w W R0 b bs V M (aH.none,LA.2) (fP M cu LA.1 1 pa) pa pn SH (.panicked ch) w') (by kernel_rfl) (fun _ _ _ h=>⟨h.1,h.2⟩) (by kernel_rfl) trivial ?_;refine aI.aC [0,1,2,3,4,5,6,7,8,9,10,11,12,13] (by kernel_rfl) ?_
 simp only[ay,nth]
 repeat (go_big_quiet_step (fail))
 refine wpQuiet_nil ?_;refine aI.dm (by kernel_rfl) rfl (by kernel_rfl) (fun K hK=>?_)
 simp only[ay,nth]
 refine aA ?_;go_simp;have P2d:=zq (P2.o.drew);have M2d:=zq (M2.o.trans ((Mod.refl (fun k=>k=b) W2).drew) (fun _ _ h=>h));obtain⟨W2d,hW2d⟩:=Zn W2.drew;rw[<-hW2d] at P2d M2d ⊢;clear hW2d z1 y3 z6 k0 k1 P2 M2 H62;refine (C3.o W2d P2d.o HIN.o).mono ?_;rintro e w3 ⟨ho,hb⟩;have P3:=zq (P2d.o.go hb);have M3:=zq (M2d.o.trans (Mod.of_below hb) (fun _ _ h=>h.elim));clear hb C3;rcases ho with ⟨hz,rfl⟩|⟨hz,rfl⟩;rotate_left
 ·have EL:=zq (K5.o.1 hz);exact⟨rfl,M3.o,Or.inr (Or.inl ⟨by rw[EL.o];exact hz,by rw[EL.o],DROP.o _ _ P3.o.at_⟩)⟩
 try simp only at hz
 have X3:=zq (I3.o hz);have K6:=zq (K5.o.2 hz);clear hz I3;go_simp;refine hK _ _ ?_;clear hK;refine aI.aC [15] (by kernel_rfl) ?_
 simp only[ay,nth]
 repeat (go_big_quiet_step (fail))
 refine wpQuiet_nil ?_;refine aI.bH ?_;have P3d:=zq (P3.o.drew);have M3d:=zq (M3.o.trans ((Mod.refl (fun k=>k=b) w3).drew) (fun _ _ h=>h))
 go_upto_region 5 with (fail)
 obtain⟨W3d,hW3d⟩:=Zn w3.drew;rw[<-hW3d] at P3d M3d;have CL:=zq (show ∀ W2,dB w R0 ((b, 57,V.cells M)::(bp, 50,#[.int .i64 (pa:Int),.int .i64 (pn:Int),.int .i64 q])::(bp+1, 66,#[.int .i64 i.kind,.int .i64 i.under,.int .i64 i.mult,.int .i64 i.strike,.int .i64 i.aN,.bool i.call,.int .i64 i.mark])::(bp+1+1, 50,#[.int .i64 0,.int .i64 0,.int .i64 0])::bs) V M W2->(fun W2:World=>W2.cell? ⟨bp,0,none⟩=some (.int .i64 (pa:Int))) W2 from fun W2 F=>F.at_.cell 1 rfl 0 rfl);have j0:∀ z:dh (fun W2:World=>W2.cell? ⟨bp,0,none⟩=some (.int .i64 (pa:Int))),z.w.cell? ⟨bp,0,none⟩=some (.int .i64 (pa:Int)):=fun z=>z.ok
 haveI ne:Nonempty (dh (fun W2:World=>W2.cell? ⟨bp,0,none⟩=some (.int .i64 (pa:Int)))):=⟨⟨W3d,CL.o _ P3d.o⟩⟩
 refine aI.aX (C:=fun w'=>∃ z:dh (fun W2:World=>W2.cell? ⟨bp,0,none⟩=some (.int .i64 (pa:Int))),w'=z.w) [4,7,10,13] [0,5,6,11,12] (.step 0 (.step 1 (.step 2 (.step 3 (.step 5 (.step 6 (.step 11 (.step 12 (.step 4 (.step 7 (.step 8 (.step 9 (.step 10 (.step 13 .leaf)))))))))))))) (fun ch d w'=>d=[]/\wP w W R0 b bs V M (aH.none,LA.2) (fP M cu LA.1 1 pa) pa pn SH (.panicked ch) w') (by kernel_rfl) (fun _ _ _ h=>⟨h.1,h.2⟩) (by kernel_rfl) ⟨⟨w3.drew,by rw[<-hW3d];exact CL.o _ P3d.o⟩,rfl⟩ ?_;rw[<-hW3d];clear hW3d;refine aI.bM [0] (by kernel_rfl) ?_
 simp only[ay,nth]
 repeat (go_big_quiet_step (fail))
 refine wpQuiet_nil ?_;have z1:W3d.cell? ⟨bp,1,none⟩=some (.int .i64 (pn:Int)):=P3d.o.at_.cell 1 rfl 1 rfl;refine aI.aC [1,2,3] (by kernel_rfl) ?_
 simp only[ay,nth]
 repeat (go_big_quiet_step (fail))
 refine wpQuiet_nil ?_;clear z1;refine aI.bM [5,6,11,12] (by kernel_rfl) ?_
 simp only[ay,nth]
 repeat (go_big_quiet_step (fail))
 refine wpQuiet_nil ?_;clear j0;refine aI.aK (by kernel_rfl) rfl (fun K hK=>?_)
 simp only[ay,nth]
 refine aA ?_;go_simp;refine (CUR.o _ P3d.o).mono ?_;rintro e w4 ⟨rfl,hb⟩;have P4:=zq (P3d.o.go hb);have M4:=zq (M3d.o.trans (Mod.of_below hb) (fun _ _ h=>h.elim));clear hb CUR;go_simp;refine hK _ _ (fun _=>⟨⟨_,CL.o _ P4.o⟩,rfl⟩) ?_;clear hK;refine aI.aK (by kernel_rfl) rfl (fun K hK=>?_)
 simp only[ay,nth]
 refine aA ?_;go_simp;refine (SB.o X1.o X3.o _).mono ?_;rintro e w' ⟨rfl,rfl⟩;go_simp;refine hK _ _ (fun _=>⟨⟨_,CL.o _ P4.o⟩,rfl⟩) ?_;clear hK SB;refine aI.aC [8,9] (by kernel_rfl) ?_
 simp only[ay,nth]
 repeat (go_big_quiet_step (fail))
 refine wpQuiet_nil ?_;by_cases hr4:r4=0;rotate_left
 ·have EL:=zq K6.o;have HZ:=zq hr4;refine aI.aK (by kernel_rfl) rfl (fun K hK=>?_)
  simp only[ay,nth]
  refine aA ?_;go_simp;refine (nT x4 r4 HZ.o _).mono ?_;rintro e w' ⟨rfl,rfl⟩;exact⟨rfl,M4.o,Or.inr (Or.inl ⟨by rw[EL.o];exact HZ.o,by rw[EL.o],DROP.o _ _ P4.o.at_⟩)⟩
 have X4:=zq (I4.o hr4);subst hr4;have EL:=zq K6.o;clear K5 K6 I4;refine aI.aK (by kernel_rfl) rfl (fun K hK=>?_)
 simp only[ay,nth]
 refine aA ?_;go_simp;refine (qw x4 _).mono ?_;rintro e w' ⟨rfl,rfl⟩;go_simp;refine hK _ _ (fun _=>⟨⟨_,CL.o _ P4.o⟩,rfl⟩) ?_;clear hK;refine aI.dm (by kernel_rfl) rfl (by kernel_rfl) (fun K hK=>?_)
 simp only[ay,nth]
 refine aA ?_;go_simp;refine (CPA.o _ P4.o x4 X4.o).mono ?_;rintro e w5 ⟨hmo,ho⟩;have M5:=zq (M4.o.trans hmo (fun _ _ h=>h));have BH:=zq (show W.heap.size<=w4.heap.size from M4.o.size);clear hmo CPA;rcases ho with ⟨hz,rfl,V5,F5,O5⟩|⟨hz,rfl,F5⟩;rotate_left
 ·exact⟨rfl,M5.o,Or.inr (Or.inr ⟨by rw[EL.o],by rw[EL.o];exact hz,by rw[EL.o],DROP.o _ _ F5.at_⟩)⟩
 have P5:=zq F5;have OW:=zq O5;have HZ:=zq hz;clear F5 O5 hz;go_simp;refine hK _ _ ?_;clear hK;refine aI.bH ?_;have q0:w5.cell? ⟨bp,0,none⟩=some (.int .i64 (pa:Int)):=P5.o.at_.cell 1 rfl 0 rfl;have q1:w5.cell? ⟨bp,1,none⟩=some (.int .i64 (pn:Int)):=P5.o.at_.cell 1 rfl 1 rfl;have q2:w5.cell? ⟨bp,2,none⟩=some (.int .i64 q):=P5.o.at_.cell 1 rfl 2 rfl;have zf:=P5.o.at_.free 1 rfl 2;have P6:=zq (P5.o.cell 1 rfl 2 (.int .i64 x2));have M6:=zq (show Mod (fun k=>k=b) W (w5.setCell ⟨bp,2,none⟩ (.int .i64 x2)) from M5.o.trans ((Mod.refl (fun k=>k=bp) w5).setCell _ (fun _=>rfl)) (fun i hi e=>by have:=HB.o;omega));have O6:=zq (show bF (w5.setCell ⟨bp,2,none⟩ (.int .i64 x2)) W.heap.size V5 (fP M cu x4 1 pa).1 from (OW.o.mod ((Mod.refl (fun k=>k=bp) w5).setCell _ (fun _=>rfl)) (fun k hk _ e=>by subst e;have:=P4.o.at_.lt (k, 50,#[.int .i64 (pa:Int),.int .i64 (pn:Int),.int .i64 q]) (by simp);simp only at this;omega)).base BH.o)
 go_upto_region 7 with (fail)
 obtain⟨W6,hW6⟩:=Zn (w5.setCell ⟨bp,2,none⟩ (.int .i64 x2));rw[<-hW6] at P6 M6 O6;rw[<-hW6];clear hW6 q0 q1 q2 zf;have q0:W6.cell? ⟨bp,0,none⟩=some (.int .i64 (pa:Int)):=P6.o.at_.cell 1 rfl 0 rfl;have q1:W6.cell? ⟨bp,1,none⟩=some (.int .i64 (pn:Int)):=P6.o.at_.cell 1 rfl 1 rfl;have q2:W6.cell? ⟨bp,2,none⟩=some (.int .i64 x2):=P6.o.at_.cell 1 rfl 2 rfl;have u0:W6.cell? ⟨bp+1+1,0,none⟩=some (.int .i64 0):=P6.o.at_.cell 3 rfl 0 rfl;have u1:W6.cell? ⟨bp+1+1,1,none⟩=some (.int .i64 0):=P6.o.at_.cell 3 rfl 1 rfl;have u2:W6.cell? ⟨bp+1+1,2,none⟩=some (.int .i64 0):=P6.o.at_.cell 3 rfl 2 rfl;have f0:=P6.o.at_.free 3 rfl 0;have f1:=P6.o.at_.free 3 rfl 1;have f2:=P6.o.at_.free 3 rfl 2;have P9:=zq (((P6.o.cell 3 rfl 0 (.int .i64 (pa:Int))).cell 3 rfl 1 (.int .i64 (pn:Int))).cell 3 rfl 2 (.int .i64 x2));have M9:=zq (show Mod (fun k=>k=b) W (((W6.setCell ⟨bp+1+1,0,none⟩ (.int .i64 (pa:Int))).setCell ⟨bp+1+1,1,none⟩ (.int .i64 (pn:Int))).setCell ⟨bp+1+1,2,none⟩ (.int .i64 x2)) from M6.o.trans ((((Mod.refl (fun k=>k=bp+1+1) W6).setCell _ (fun _=>rfl)).setCell _ (fun _=>rfl)).setCell _ (fun _=>rfl)) (fun i hi e=>by have:=HB.o;omega));have O9:=zq (show bF (((W6.setCell ⟨bp+1+1,0,none⟩ (.int .i64 (pa:Int))).setCell ⟨bp+1+1,1,none⟩ (.int .i64 (pn:Int))).setCell ⟨bp+1+1,2,none⟩ (.int .i64 x2)) W.heap.size V5 (fP M cu x4 1 pa).1 from O6.o.keep ((((Mod.refl (fun k=>k=bp+1+1) W6).setCell _ (fun _=>rfl)).setCell _ (fun _=>rfl)).setCell _ (fun _=>rfl)) (fun k hk=>by rw[hk];exact P6.o.uq (bp+1+1, 50,#[.int .i64 0,.int .i64 0,.int .i64 0]) (by simp)))
 go_wp2_with fail
 obtain⟨d,hu,hd⟩:=JV;refine bodyPost_ret (rJ (cs:=#[.int .i64 (pa:Int),.int .i64 (pn:Int),.int .i64 x2]) yN _ _ (bp+1+1) 50 (0,0) d rfl (by simpa using P9.o.at_.get 3 rfl) hu (by cases d <;> first|rfl|exact hd) (by rw[NR];rfl)) rfl ?_;refine⟨M9.o,Or.inl ⟨by rw[EL.o],by rw[EL.o];exact HZ.o,by rw[ESH.o],V5,?_,?_⟩⟩
 ·rw[EL.o];exact P9.o.drop1.drop1.drop1
 rw[EL.o];exact O9.o
end Go.Proofs.YtcepekniflaoaaaGreatDoor
