/- life's calls on the turn: Day. -/
import Derived.Test.YtcepekniflaoaaaGreatDoorHk
import Derived.Test.YtcepekniflaoaaaGreatDoorHb
set_option linter.unusedVariables false
set_option linter.unusedSimpArgs false
set_option maxRecDepth 100000
set_option maxHeartbeats 16000000
namespace Go.Bw
open Go.RowKit
theorem dA.IU {w W:World} {R0 b:Nat} {bs:List (Nat×TypeId×Array Value)} {V:aB} {l L:aI} {T:TypeId} (h:dA w R0 bs V l W) (i:Nat) (hi:bs[i]?=some (b,T,V.cells L)):dA w R0 (bs.set i (b,T,({ V with aN:=.slice none 0 0 }:aB).cells L)) { V with aN:=.slice none 0 0 } { l with aN:=[] } (W.setCell ⟨b,8,none⟩ (.slice none 0 0)):=by
 have o1:=h.own.Dv (w':=W) (v:=.slice none 0 0) (xs:=[]) (Mod.refl _ W) (aV.nil _ _ _ _ _) (fun k hk=>by simp[Value.ownBlock] at hk);have F:dA w R0 bs { V with aN:=.slice none 0 0 } { l with aN:=[] } W:=⟨h.at_,o1,fun y hy=>lN (q:=7) (h.sD y hy) rfl (by simp[Value.ownBlock]),h.rb,h.lo⟩;exact F.cell i hi 8 _
theorem jK.noMark {L M:aI} (h:jK L M) (n:Nat):(M.ins n).noMark=(L.ins n).noMark:=by
 have:=congrArg (fun l=>l.getD n (Ins.noMark ⟨0,0,0,0,0,false,0⟩)) h.af
 simp only[List.getD_eq_getElem?_getD,List.getElem?_map] at this
 unfold aI.ins;rw[Int.toNat_natCast,List.getD_eq_getElem?_getD,List.getD_eq_getElem?_getD];cases h1:M.af[n]? <;> cases h2:L.af[n]? <;> simp_all
theorem jK.aJ {L M:aI} (h:jK L M) (n:Nat):(M.ins n).aJ=(L.ins n).aJ:=by
 have:=congrArg Ins.aJ (h.noMark n);exact this
theorem jK.lens {L M:aI} (h:jK L M):M.af.length=L.af.length:=by
 have:=congrArg List.length h.af
 simpa using this
theorem rW {V1:aB} {m:Nat} (MB:∀ y∈V1.rows,∀ j,y.ownBlock=some j->j<m):∀ y∈({ V1 with orders:=.slice none 0 0,aN:=.slice none 0 0 }:aB).rows,∀ j,y.ownBlock=some j->j<m:=by
 intro y hy j hj;have e:({ V1 with orders:=.slice none 0 0,aN:=.slice none 0 0 }:aB).rows=(V1.rows.set 5 (.slice none 0 0)).set 7 (.slice none 0 0):=rfl;rw[e] at hy;rcases List.mem_or_eq_of_mem_set hy with hy|rfl
 ·rcases List.mem_or_eq_of_mem_set hy with hy|rfl
  ·exact MB y hy j hj
  simp[Value.ownBlock] at hj
 simp[Value.ownBlock] at hj
theorem jK.refl {L:aI} (h:L.Good):jK L L:=⟨h,rfl,rfl,rfl,rfl,rfl,rfl,rfl,rfl,rfl⟩
end Go.Bw
namespace Go.Proofs.YtcepekniflaoaaaGreatDoor
open Go.RowKit Go.Bw Go.Maps Go.Shelf Go.Bw.Fall
theorem Gn (W:World) (b bx:Nat) (V:aB) (L:aI) (hb:W.heap[b]?=some (.cells (V.cells L) 57 (0,0))) (h:bJ W V L) (hx:W.cell? ⟨bx,0,none⟩=some (.pointer (some ⟨b,0,none⟩))) (p:Pos) (h0:0<=p.instr) (h1:p.instr<L.af.length) :
 Calls Tryz.prog 55 #[.agg #[.int .i64 p.ak,.int .i64 p.instr,.int .i64 p.qty],.pointer (some ⟨bx,0,none⟩)] W fun e w'=>e=.returned (.bool (mJ L.day (L.ins p.instr)))/\Below W.heap.size W w':=by
 obtain⟨n,hn⟩:∃ n:Nat,p.instr=n:=⟨p.instr.toNat,by omega⟩;rw[hn] at h1 ⊢;have hl:n<L.af.length:=by omega
 obtain⟨b3,o3,c3,e3,h3⟩:=h.af.place (aI.gX hl);obtain⟨n3,hn3⟩:=Zn L.af.length;rw[<-hn3] at e3 hl;obtain⟨B,hB⟩:=Zn (mJ L.day (L.ins n));obtain⟨ex,hex⟩:=Zn ((L.ins n).aJ);obtain⟨d,hd⟩:=Zn L.day;have SB:=zq (show B=decide (ex≠d\/d=0) from by rw[hB,hex,hd];rfl);obtain⟨W1,hW1⟩:=Zn (W.alloc (.cells #[.int .i64 p.ak,.int .i64 (n:Int),.int .i64 p.qty] 50));obtain⟨bp,hbp⟩:=Zn W.heap.size;have hal:∀ {a u},W.cell? a=some u->W1.cell? a=some u:=fun h=>by rw[hW1];exact ((Mod.refl (fun _=>False) W).alloc _).cell h (fun h=>h)
 have y0:W1.cell? ⟨b,0,none⟩=some (.int .i64 d):=hal (by rw[hd];exact nP hb rfl);have y3:W1.cell? ⟨b,3,none⟩=some (.slice (some ⟨b3,o3,none⟩) n3 c3):=hal (by rw[<-e3];exact nP hb rfl);have q4:W1.cell? ⟨b3,o3+n*7+4,none⟩=some (.int .i64 ex):=hal (by rw[hex];exact h3 4 _ rfl);have jx:W1.cell? ⟨bx,0,none⟩=some (.pointer (some ⟨b,0,none⟩)):=hal hx;have p1:W1.cell? ⟨bp,1,none⟩=some (.int .i64 (n:Int)):=by rw[hW1,hbp];exact cell_of_heap (heap_alloc_new W _) 1
 have BB:=zq (show Below W.heap.size W W1 from by rw[hW1];exact Zb);rw[<-hB];have k0:(0:Int)<=(n:Int):=by omega
 have k1:(n:Int)<(n3:Int):=by omega
 clear hb h hx h0 h1 h3 hn3 e3 hB hex hd hal hn hl;have END:=zq (show Below W.heap.size W W1.drew from BB.o.trans (((Mod.refl (fun _=>False) W1).drew).aQ.mono BB.o.size));by_cases hne:ex=d
 ·have qq:(ex != d)=false:=by simp[hne]
  have SC:=zq (show B=(d==0) from by rw[SB.o];by_cases h:d=0 <;> simp[hne,h]);clear hne SB
  go_enter Tryz.func55,Tryz.ntmps55
  go_upto_region 1 with (fail)
  rw[<-hW1,<-hbp];clear hW1 hbp;refine aF.wz [] [] (.step 0 (.step 1 (.step 2 (.step 3 (.step 4 (.step 5 (.step 6 (.step 7 (.step 8 (.step 9 (.step 10 (.step 11 (.step 12 (.step 13 (.step 14 (.step 15 (.step 16 (.step 17 (.step 18 (.step 19 (.step 20 (.step 21 (.step 22 (.step 23 (.step 24 .leaf))))))))))))))))))))))))) (by kernel_rfl) (by kernel_rfl) ?_;refine aF.aC [0,1,2,3,4,5,6,7,8,9,10,11,12,13,14,15,16,17,18,19,20,21,22,23,24] (by kernel_rfl) ?_
  simp only[ay,nth]
  repeat (go_big_quiet_step (fail))
  refine wpQuiet_nil ?_;refine aF.aZ ?_
  go_wp2_with fail
  go_ret;exact⟨aj SC.o.symm,END.o⟩
 have qq:(ex != d)=true:=by simp[hne]
 have SC:=zq (show B=true from by rw[SB.o];simp[hne]);clear hne SB
 go_enter Tryz.func55,Tryz.ntmps55
 go_upto_region 1 with (fail)
 rw[<-hW1,<-hbp];clear hW1 hbp;refine aF.wz [] [] (.step 0 (.step 1 (.step 2 (.step 3 (.step 4 (.step 5 (.step 6 (.step 7 (.step 8 (.step 9 (.step 10 (.step 11 (.step 12 (.step 13 (.step 14 (.step 15 (.step 16 (.step 17 (.step 18 (.step 19 (.step 20 (.step 21 (.step 22 (.step 23 (.step 24 .leaf))))))))))))))))))))))))) (by kernel_rfl) (by kernel_rfl) ?_;refine aF.aC [0,1,2,3,4,5,6,7,8,9,10,11,12,13,14,15,16,17,18,19,20,21,22,23,24] (by kernel_rfl) ?_
 simp only[ay,nth]
 repeat (go_big_quiet_step (fail))
 refine wpQuiet_nil ?_;refine aF.aZ ?_
 go_wp2_with fail
 go_ret;exact⟨aj SC.o.symm,END.o⟩
structure pR (w:World) (R0 b:Nat) (bs:List (Nat×TypeId×Array Value)) (a3:Option Addr) (L:aI) (k:Nat) (V':aB) (M:aI) (W':World):Prop where
 fM:dA w R0 ((b, 57,V'.cells M)::bs) V' M W'
 go:fK k (L.af.drop k) M=fK 0 L.af L
 dV:jK L M
 row:∀ (j:Nat) i,k<=j->L.af[j]?=some i->∃ g,a3=some ⟨g,0,none⟩/\g≠b/\∀ (o:Nat) u,(Ins.cells i)[o]?=some u->W'.cell? ⟨g,j*7+o,none⟩=some u
theorem pR.Bc {w:World} {R0 b:Nat} {bs:List (Nat×TypeId×Array Value)} {a3:Option Addr} {L:aI} {k:Nat} {V':aB} {M:aI} {W' W2:World} (h:pR w R0 b bs a3 L k V' M W') (hb:Below W'.heap.size W' W2):pR w R0 b bs a3 L k V' M W2 :=
 ⟨h.fM.go hb,h.go,h.dV,fun j i hj hi=>by
  obtain⟨g,e,hg,hc⟩:=h.row j i hj hi;exact⟨g,e,hg,fun o u hu=>(Mod.of_below hb).cell (hc o u hu) (fun h=>h)⟩⟩
theorem pR.skip {w:World} {R0 b:Nat} {bs:List (Nat×TypeId×Array Value)} {a3:Option Addr} {L:aI} {k:Nat} {V':aB} {M:aI} {W':World} (h:pR w R0 b bs a3 L k V' M W') {i:Ins} (hi:L.af[k]?=some i) (hn:¬ (i.aJ=0\/L.day<=i.aJ)):pR w R0 b bs a3 L (k+1) V' M W' :=
 ⟨h.fM,by rw[<-h.go,drop_at hi,wY (by rw[h.dV.day];exact hn)],h.dV,fun j x hj hx=>h.row j x (by omega) hx⟩
theorem pR.next {w:World} {R0 b:Nat} {bs:List (Nat×TypeId×Array Value)} {a3:Option Addr} {L:aI} {k:Nat} {V' V2:aB} {M:aI} {W' W2:World} (h:pR w R0 b bs a3 L k V' M W') {i:Ins} (hi:L.af[k]?=some i) (hn:i.aJ=0\/L.day<=i.aJ) (he:(dI M k).2=0)
 (F:dA w R0 ((b, 57,V2.cells (dI M k).1)::bs) V2 (dI M k).1 W2) (hs:Bg b V'.af (k*7+6) W' W2):pR w R0 b bs a3 L (k+1) V2 (dI M k).1 W2:=by
 have hkl:k<M.af.length:=by rw[h.dV.lens];exact (List.getElem?_eq_some_iff.1 hi).1
 refine⟨F,by rw[<-h.go,drop_at hi,wZ (by rw[h.dV.day];exact hn) he],h.dV.trans (nJ h.dV.good hkl he),fun j x hj hx=>?_⟩;obtain⟨g,e,hg,hc⟩:=h.row j x (by omega) hx;refine⟨g,e,hg,fun o u hu=>hs g _ u (hc o u hu) hg (fun _=>?_)⟩;have:=(List.getElem?_eq_some_iff.1 hu).1;rw[dS] at this;omega
theorem RP (w:World) (L:aI) (hG:L.Good):lS w L 53 #[] [] (jT L):=by
 classical
 intro W R0 b V rest F;have FF:=zq F;have HG:=zq hG;obtain⟨a3,c3,e3⟩:=F.own.led.af.form;have E3:=zq e3;obtain⟨n3,hn3⟩:=Zn L.af.length;have N3:=zq hn3;have U12:=zq (show n3<=12 from by rw[hn3];exact hG.things.i1);have D0:=zq (And.intro hG.d0 hG.d1);obtain⟨W1,hW1⟩:=Zn (W.alloc (.cells #[.pointer (some ⟨b,0,none⟩)] 54));obtain⟨bx,hbx⟩:=Zn W.heap.size;have F1:=zq (show dA w R0 ((b, 57,V.cells L)::(bx, 54,#[.pointer (some ⟨b,0,none⟩)])::rest) V L W1 from by rw[hW1,hbx];exact F.add1 _ _);have jx:W1.cell? ⟨bx,0,none⟩=some (.pointer (some ⟨b,0,none⟩)):=F1.o.at_.cell 1 rfl 0 rfl;have y0:W1.cell? ⟨b,0,none⟩=some (.int .i64 L.day):=F1.o.at_.cell 0 rfl 0 rfl;have y3:W1.cell? ⟨b,3,none⟩=some (.slice a3 n3 c3):=by rw[hn3,<-e3];exact F1.o.at_.cell 0 rfl 3 rfl
 have NB:=zq (show V.af.ownBlock≠some b from F.sD (b, 57,V.cells L) (by simp) V.af (by simp[aB.rows]));clear F e3 hn3 hG
 go_enter Tryz.func53,Tryz.ntmps53
 go_upto_region 1 with (fail)
 rw[<-hW1,<-hbx];clear hW1 hbx
 go_wp2_with fail
 refine (iU (L.day<100000) 41 _).mono ?_;rintro e w' ⟨he,rfl⟩;rcases Or.symm he with ⟨hlt,rfl⟩|⟨hlt,rfl⟩
 ·go_wp2_with fail
  exact⟨rfl,dL (by unfold jT;rw[if_neg (by omega)];rfl) (by decide) F1.o.at_⟩
 have HD:=zq hlt;have ES:=zq (show jT L=if (fK 0 L.af L).2=0 then ⟨{ (fK 0 L.af L).1 with day:=L.day+1,au:=L.au.filter (fun p=>mJ L.day (L.ins p.instr)),orders:=[],aN:=[],aG:=List.replicate L.af.length 0 },L.day+1,0⟩ else .no (fK 0 L.af L).2 from by unfold jT;rw[if_pos hlt]);clear he hlt
 go_wp2_with fail
 go_loopw [18] (fun i wr=>∃ k:Nat,k<=n3/\i=.int .i64 k/\∃ W',W'=wr/\Hid (∃ V' M',pR w R0 b ((bx, 54,#[.pointer (some ⟨b,0,none⟩)])::rest) a3 L k V' M' W')) (fun i _=>n3 - (intOf i).toNat)
 case atStart=>exact⟨0,Nat.zero_le _,rfl,_,rfl,zq ⟨V,L,F1.o,by rw[List.drop_zero],jK.refl HG.o,fun j i _ hi=>by
  obtain⟨g,c,e,_,_,hc,_⟩:=F1.o.own.af.slot dS (by decide) hi;have e2:=E3.o;rw[e] at e2;injection e2 with e2;exact⟨g,e2.symm,fun h=>NB.o (by rw[e,h];rfl),hc⟩⟩⟩
 clear y0 y3 jx F1;obtain⟨k,hk,rfl,W',rfl,IV0⟩:=hrel;obtain⟨V',M',IV1⟩:=IV0.o;have IV:=zq IV1;clear IV0 IV1;by_cases hlt:k<n3
 ·have hlt':(k:Int)<(n3:Int):=by omega
  have n12:n3<=12:=U12.o;have LT:=zq hlt;obtain⟨i,hi⟩:∃ i,L.af[k]?=some i:=⟨_,Zg (by rw[<-N3.o];exact hlt)⟩;have HI:=zq hi;obtain⟨g,ea,hgb,hc⟩:=IV.o.row k i (Nat.le_refl _) hi;have q0:W'.cell? ⟨g,k*7,none⟩=some (.int .i64 i.kind):=by have:=hc 0 _ rfl;simpa using this
  have q1:=hc 1 _ rfl;have q2:=hc 2 _ rfl;have q3:=hc 3 _ rfl;have q4:=hc 4 _ rfl;have q5:=hc 5 _ rfl;have q6:=hc 6 _ rfl;subst ea;clear hi hc hlt hk
  go_upto_region 5 with (fail)
  obtain⟨W2,hW2⟩:=Zn (W'.alloc (.cells #[.int .i64 i.kind,.int .i64 i.under,.int .i64 i.mult,.int .i64 i.strike,.int .i64 i.aJ,.bool i.call,.int .i64 i.mark] 66));obtain⟨bi,hbi⟩:=Zn W'.heap.size;have gi:=zq (show W2.heap[bi]?=some (.cells #[.int .i64 i.kind,.int .i64 i.under,.int .i64 i.mult,.int .i64 i.strike,.int .i64 i.aJ,.bool i.call,.int .i64 i.mark] 66 (0,0)) from by rw[hW2,hbi];exact heap_alloc_last _ _);have I2:=zq (show pR w R0 b ((bx, 54,#[.pointer (some ⟨b,0,none⟩)])::rest) (some ⟨g,0,none⟩) L k V' M' W2 from by rw[hW2];exact IV.o.Bc (Zb));rw[<-hW2,<-hbi];clear hW2 hbi q0 q1 q2 q3 q4 q5 q6 hgb IV;obtain⟨ex,hex⟩:=Zn i.aJ;obtain⟨d,hd⟩:=Zn L.day;have EX:=zq (And.intro hex hd);have i4:W2.cell? ⟨bi,4,none⟩=some (.int .i64 ex):=by rw[hex];exact cell_of_heap gi.o 4
  have jx:W2.cell? ⟨bx,0,none⟩=some (.pointer (some ⟨b,0,none⟩)):=I2.o.fM.at_.cell 1 rfl 0 rfl;have y0:W2.cell? ⟨b,0,none⟩=some (.int .i64 d):=by rw[hd,<-I2.o.dV.day];exact I2.o.fM.at_.cell 0 rfl 0 rfl
  clear hex hd;refine aF.wz [] [] (.step 0 (.step 1 (.step 2 (.step 3 (.step 4 (.step 5 (.step 6 (.step 7 (.step 8 (.step 9 (.step 10 (.step 11 (.step 12 .leaf))))))))))))) (by kernel_rfl) (by kernel_rfl) ?_;by_cases hcd:ex=0\/d<=ex
  ·have qq:(if (ex==(0:Int))=true then true else decide (d<=ex))=true:=by by_cases h:ex=0 <;> simp[h];omega
   have HCD:=zq (show i.aJ=0\/L.day<=i.aJ from by rw[<-EX.o.1,<-EX.o.2];exact hcd);have MG:=zq I2.o.dV.good;have MN:=zq (show k<M'.af.length from by rw[I2.o.dV.lens,<-N3.o];exact LT.o);have ID:=zq (I2.o.Bc ((Mod.refl (fun _=>False) W2).drew).aQ);obtain⟨WD,hWD⟩:=Zn W2.drew;rw[<-hWD] at ID;have CS:=zq (Dn w WD R0 b _ V' M' ID.o.fM MG.o k MN.o);have jx':WD.cell? ⟨bx,0,none⟩=some (.pointer (some ⟨b,0,none⟩)):=ID.o.fM.at_.cell 1 rfl 0 rfl;by_cases hz0:ex=0
   ·have q1:(ex==(0:Int))=true:=by simp[hz0]
    clear qq hcd hz0;refine aF.aC [0,1,2,3,4,5,6,7,8,9,10,11,12] (by kernel_rfl) ?_
    simp only[ay,nth]
    repeat (go_big_quiet_step (fail))
    refine wpQuiet_nil ?_;refine aF.aZ ?_;rw[<-hWD];clear hWD jx i4 y0
    go_wp2_with fail
    refine CS.o.mono ?_;rintro e w3 (⟨hz,rfl,hs,V2,F2,_⟩|⟨hz,rfl,A2⟩)
    ·have NX:=zq (ID.o.next HI.o HCD.o hz F2 hs);clear hz hs F2
     go_wp2_with fail
     go_roundw
     case rel=>exact⟨k+1,by have:=LT.o;omega,by go_num,_,rfl,zq ⟨_,_,NX.o⟩⟩
     case measure=>have:=LT.o;simp[intOf];omega
    have GO:=zq (show fK 0 L.af L=(aI.none,(dI M' k).2) from by rw[<-ID.o.go,drop_at HI.o,qO (by rw[ID.o.dV.day];exact HCD.o) hz]);have HZ:=zq hz;have A9:=zq A2;clear hz A2
    go_wp2_with fail
    exact⟨rfl,dL (by rw[ES.o,GO.o,if_neg HZ.o];rfl) HZ.o A9.o⟩
   have q1:(ex==(0:Int))=false:=by simp[hz0]
   have q2:decide (d<=ex)=true:=decide_eq_true (by omega);clear qq hcd hz0;refine aF.aC [0,1,2,3,4,5,6,7,8,9,10,11,12] (by kernel_rfl) ?_
   simp only[ay,nth]
   repeat (go_big_quiet_step (fail))
   refine wpQuiet_nil ?_;refine aF.aZ ?_;rw[<-hWD];clear hWD jx i4 y0
   go_wp2_with fail
   refine CS.o.mono ?_;rintro e w3 (⟨hz,rfl,hs,V2,F2,_⟩|⟨hz,rfl,A2⟩)
   ·have NX:=zq (ID.o.next HI.o HCD.o hz F2 hs);clear hz hs F2
    go_wp2_with fail
    go_roundw
    case rel=>exact⟨k+1,by have:=LT.o;omega,by go_num,_,rfl,zq ⟨_,_,NX.o⟩⟩
    case measure=>have:=LT.o;simp[intOf];omega
   have GO:=zq (show fK 0 L.af L=(aI.none,(dI M' k).2) from by rw[<-ID.o.go,drop_at HI.o,qO (by rw[ID.o.dV.day];exact HCD.o) hz]);have HZ:=zq hz;have A9:=zq A2;clear hz A2
   go_wp2_with fail
   exact⟨rfl,dL (by rw[ES.o,GO.o,if_neg HZ.o];rfl) HZ.o A9.o⟩
  have q1:(ex==(0:Int))=false:=by simp;omega
  have q2:decide (d<=ex)=false:=Zf (by omega);have NX:=zq ((I2.o.skip HI.o (by rw[<-EX.o.1,<-EX.o.2];exact hcd)).Bc ((Mod.refl (fun _=>False) W2).drew).aQ);clear hcd;refine aF.aC [0,1,2,3,4,5,6,7,8,9,10,11,12] (by kernel_rfl) ?_
  simp only[ay,nth]
  repeat (go_big_quiet_step (fail))
  refine wpQuiet_nil ?_;refine aF.aZ ?_
  go_wp2_with fail
  go_roundw
  case rel=>exact⟨k+1,by have:=LT.o;omega,by go_num,_,rfl,zq ⟨V',M',NX.o⟩⟩
  case measure=>have:=LT.o;simp[intOf];omega
 have hlt':¬ (k:Int)<(n3:Int):=by omega
 have GO:=zq (show fK 0 L.af L=(M',0) from by rw[<-IV.o.go,lY (by rw[<-N3.o];omega)];rfl);have KP:=zq (zl w W' R0 b _ V' M' IV.o.fM (by rw[IV.o.dV.au];have:=HG.o.au.len;omega) 55 #[.pointer (some ⟨bx,0,none⟩)] (enters_of Tryz.func55 (by kernel_rfl) rfl) (fun p=>mJ M'.day (M'.ins p.instr)) (fun W2 F p hp=>Gn W2 b bx V' M' (F.at_.get 0 rfl) F.own.led (F.at_.cell 1 rfl 0 rfl) p (IV.o.dV.good.au.all p hp).2.2.1 (IV.o.dV.good.au.all p hp).2.2.2.1));have FL:=zq (show M'.au.filter (fun p=>mJ M'.day (M'.ins p.instr))=L.au.filter (fun p=>mJ L.day (L.ins p.instr)) from by
  rw[IV.o.dV.au];refine List.filter_congr fun p hp=>?_
  have h0:=(HG.o.au.all p hp).2.2.1;obtain⟨n,hn⟩:∃ n:Nat,p.instr=n:=⟨p.instr.toNat,by omega⟩;rw[hn];unfold mJ;rw[IV.o.dV.day,IV.o.dV.aJ n])
 have ML:=zq IV.o.dV.lens;have MD:=zq IV.o.dV.day;have jx:W'.cell? ⟨bx,0,none⟩=some (.pointer (some ⟨b,0,none⟩)):=IV.o.fM.at_.cell 1 rfl 0 rfl;clear hlt hk IV
 go_wp2_with fail
 refine KP.o.mono ?_;rintro e w2 ⟨rfl,V1,F0⟩;obtain⟨M1,hM1⟩:∃ l:aI,l={ M' with au:=M'.au.filter (fun p=>mJ M'.day (M'.ins p.instr)) }:=⟨_,rfl⟩;have F0':dA w R0 ((b, 57,V1.cells M1)::(bx, 54,#[.pointer (some ⟨b,0,none⟩)])::rest) V1 M1 w2:=by rw[hM1];exact F0
 have FIN:=zq (show ∀ V9 WZ,dA w R0 ((b, 57,V9.cells { M1 with day:=M1.day+1 })::(bx, 54,#[.pointer (some ⟨b,0,none⟩)])::rest) V9 { M1 with day:=M1.day+1,orders:=[],aN:=[],aG:=List.replicate n3 0 } WZ->jB (jT L) w R0 b rest (.returned (.int .i64 (M1.day+1))) WZ from fun V9 WZ f=>by
  refine Ah (V:=V9) (L:={ M1 with day:=M1.day+1,orders:=[],aN:=[],aG:=List.replicate n3 0 }) ?_ f;rw[ES.o,GO.o,if_pos rfl,hM1,FL.o,MD.o,N3.o])
 have MN3:=zq (show M1.af.length=n3/\M1.day=L.day from ⟨by rw[hM1];show M'.af.length=n3;rw[ML.o,N3.o],by rw[hM1];exact MD.o⟩);clear hM1 F0 GO KP FL ML MD jx;have F1:=zq F0'.drew;clear F0';obtain⟨a3',c3',e3'⟩:=F1.o.own.led.af.form;rw[MN3.o.1] at e3';have jx:w2.cell? ⟨bx,0,none⟩=some (.pointer (some ⟨b,0,none⟩)):=F1.o.at_.cell 1 rfl 0 rfl;have hmk:∀ W:World,(Instr.makeSlice 28 (.int .i64 (n3:Nat)) (.int .i64 (n3:Nat))).run Tryz.prog W=.ok (.slice (some ⟨W.heap.size,0,none⟩) n3 n3) (W.alloc (.cells (madeCells #[.int .i64 0] n3) 3)):=zo n3 (by have:=U12.o;omega);have ovf:IntKind.i64.wrap (M1.day+1)=M1.day+1:=by rw[IntKind.wrap_i64,MN3.o.2];have:=D0.o;omega
 go_upto_region 9 with (fail)
 obtain⟨WD,hWD⟩:=Zn w2.drew;rw[<-hWD] at F1;have y3:WD.cell? ⟨b,3,none⟩=some (.slice a3' n3 c3'):=by rw[<-e3'];exact F1.o.at_.cell 0 rfl 3 rfl
 have jz:∀ z:bZ (fun W2:World=>W2.cell? ⟨bx,0,none⟩=some (.pointer (some ⟨b,0,none⟩))),z.w.cell? ⟨bx,0,none⟩=some (.pointer (some ⟨b,0,none⟩)):=fun z=>z.ok
 obtain⟨m,hm⟩:=Zn WD.heap.size;have HM:=zq hm.symm;have MB:=zq (show ∀ y∈V1.rows,∀ j,y.ownBlock=some j->j<m from fun y hy j hj=>by rw[hm];exact (F1.o.own.Pm y hy j hj).2);have MX:=zq (show ∀ x∈((b, 57,V1.cells M1)::(bx, 54,#[.pointer (some ⟨b,0,none⟩)])::rest),x.1<m from fun x hx=>by rw[hm];exact F1.o.at_.lt x hx)
 haveI ne:Nonempty (bZ (fun W2:World=>W2.cell? ⟨bx,0,none⟩=some (.pointer (some ⟨b,0,none⟩)))):=⟨⟨WD,F1.o.at_.cell 1 rfl 0 rfl⟩⟩
 clear hm e3' jx;refine aF.aW (C:=fun w'=>∃ z:bZ (fun W2:World=>W2.cell? ⟨bx,0,none⟩=some (.pointer (some ⟨b,0,none⟩))),w'=z.w) [9,13,17,21] [0,1,2,8,10,11,12,14,15,16] (.step 0 (.step 1 (.step 2 (.step 3 (.step 4 (.step 5 (.step 6 (.step 7 (.step 8 (.step 10 (.step 11 (.step 12 (.fork 9 (.step 13 (.step 14 (.step 15 (.step 16 (.step 17 (.step 18 (.step 19 (.step 20 (.step 21 .leaf))))))))) 13 (.step 14 (.step 15 (.step 16 (.fork 9 (.step 17 (.step 18 (.step 19 (.step 20 (.step 21 .leaf))))) 17 (.step 9 (.step 18 (.step 19 (.step 20 (.step 21 .leaf)))))))))))))))))))))) (fun _ _ _=>False) (by kernel_rfl) (fun _ _ _ h=>h.elim) (by kernel_rfl) ⟨⟨w2.drew,by rw[<-hWD];exact F1.o.at_.cell 1 rfl 0 rfl⟩,rfl⟩ ?_;rw[<-hWD];clear hWD;refine aF.bF [0,1,2] (by kernel_rfl) ?_
 simp only[ay,nth]
 repeat (go_big_quiet_step (fail))
 refine wpQuiet_nil ?_;have jw:WD.cell? ⟨bx,0,none⟩=some (.pointer (some ⟨b,0,none⟩)):=F1.o.at_.cell 1 rfl 0 rfl;refine aF.aC [3,4,5,6,7] (by kernel_rfl) ?_
 simp only[ay,nth]
 repeat (go_big_quiet_step (fail))
 refine wpQuiet_nil ?_;refine aF.bF [8,10,11,12] (by kernel_rfl) ?_
 simp only[ay,nth]
 repeat (go_big_quiet_step (fail))
 refine wpQuiet_nil ?_;clear y3 jw;refine aF.jO ?_ ?_
 ·have hF1M:=zq (show WD.heap.size=m from by first|rfl|(simp[World.setCell];done)|(have:=HM.o;simp_all [World.setCell]));have F1M:=zq (F1.o.go ((Below.refl _ _).alloc (Nat.le_refl _) (.cells (madeCells #[.int .i64 0] n3) 3)));have OF1M:=zq (show aV (WD.alloc (.cells (madeCells #[.int .i64 0] n3) 3)) R0 3 1 cO (.slice (some ⟨m,0,none⟩) n3 n3) (List.replicate n3 0) from by have o:=tK (WD) R0 n3 F1.o.rb (by unfold maxLen;have:=U12.o;omega);rw[hF1M.o] at o;exact o);refine aF.aK (by kernel_rfl) rfl (fun K hK=>?_)
  simp only[ay,nth]
  refine aA ?_;go_simp;obtain⟨WF1M,hWF1M⟩:=Zn (WD.alloc (.cells (madeCells #[.int .i64 0] n3) 3));rw[<-hWF1M] at F1M OF1M;rw[hF1M.o];rw[<-hWF1M];refine hK _ _ (fun _=>⟨⟨_,F1M.o.at_.cell 1 rfl 0 rfl⟩,rfl⟩) ?_;have HM:=zq (show WF1M.heap.size=m+1 from by rw[hWF1M];simp[World.setCell];try exact HM.o);clear hK hWF1M;have F1MO:=zq (show dA w R0 ((b, 57,({ (V1:aB) with orders:=.slice none 0 0 }:aB).cells M1)::(bx, 54,#[.pointer (some ⟨b,0,none⟩)])::rest) { (V1:aB) with orders:=.slice none 0 0 } { (M1:aI) with orders:=[] } (WF1M.setCell ⟨b,6,none⟩ (.slice none 0 0)) from F1M.o.Au 0 rfl);have OF1MO:=zq (OF1M.o.mod ((Mod.refl (fun k=>k=b) (WF1M)).setCell (p:=⟨b,6,none⟩) (.slice none 0 0) (fun _=>rfl)) (fun k hk e=>by simp[Value.ownBlock] at hk;have:=MX.o (b, 57,V1.cells M1) (by simp);simp only at this;omega));have yc:=F1M.o.at_.cell 0 rfl 6 rfl;have zc:=F1M.o.at_.free 0 rfl 6;refine aF.aK (by kernel_rfl) rfl (fun K hK=>?_)
  simp only[ay,nth]
  refine aA ?_;go_simp;obtain⟨WF1MO,hWF1MO⟩:=Zn (WF1M.setCell ⟨b,6,none⟩ (.slice none 0 0));rw[<-hWF1MO] at F1MO OF1MO;rw[<-hWF1MO];refine hK _ _ (fun _=>⟨⟨_,F1MO.o.at_.cell 1 rfl 0 rfl⟩,rfl⟩) ?_;have HM:=zq (show WF1MO.heap.size=m+1 from by rw[hWF1MO];simp[World.setCell];try exact HM.o);clear hK hWF1MO yc zc;refine aF.bF [14,15,16] (by kernel_rfl) ?_
  simp only[ay,nth]
  repeat (go_big_quiet_step (fail))
  refine wpQuiet_nil ?_;have F1MOL:=zq (show dA w R0 ((b, 57,({ ({ (V1:aB) with orders:=.slice none 0 0 }:aB) with aN:=.slice none 0 0 }:aB).cells M1)::(bx, 54,#[.pointer (some ⟨b,0,none⟩)])::rest) { ({ (V1:aB) with orders:=.slice none 0 0 }:aB) with aN:=.slice none 0 0 } { ({ (M1:aI) with orders:=[] }:aI) with aN:=[] } (WF1MO.setCell ⟨b,8,none⟩ (.slice none 0 0)) from F1MO.o.IU 0 rfl);have OF1MOL:=zq (OF1MO.o.mod ((Mod.refl (fun k=>k=b) (WF1MO)).setCell (p:=⟨b,8,none⟩) (.slice none 0 0) (fun _=>rfl)) (fun k hk e=>by simp[Value.ownBlock] at hk;have:=MX.o (b, 57,V1.cells M1) (by simp);simp only at this;omega));have yc:=F1MO.o.at_.cell 0 rfl 8 rfl;have zc:=F1MO.o.at_.free 0 rfl 8;refine aF.aK (by kernel_rfl) rfl (fun K hK=>?_)
  simp only[ay,nth]
  refine aA ?_;go_simp;obtain⟨WF1MOL,hWF1MOL⟩:=Zn (WF1MO.setCell ⟨b,8,none⟩ (.slice none 0 0));rw[<-hWF1MOL] at F1MOL OF1MOL;rw[<-hWF1MOL];refine hK _ _ (fun _=>⟨⟨_,F1MOL.o.at_.cell 1 rfl 0 rfl⟩,rfl⟩) ?_;have HM:=zq (show WF1MOL.heap.size=m+1 from by rw[hWF1MOL];simp[World.setCell];try exact HM.o);clear hK hWF1MOL yc zc;refine aF.aC [18,19,20] (by kernel_rfl) ?_
  simp only[ay,nth]
  repeat (go_big_quiet_step (fail))
  refine wpQuiet_nil ?_;have F1MOLA:=zq (show dA w R0 ((b, 57,({ ({ ({ (V1:aB) with orders:=.slice none 0 0 }:aB) with aN:=.slice none 0 0 }:aB) with aG:=.slice (some ⟨m,0,none⟩) n3 n3 }:aB).cells M1)::(bx, 54,#[.pointer (some ⟨b,0,none⟩)])::rest) { ({ ({ (V1:aB) with orders:=.slice none 0 0 }:aB) with aN:=.slice none 0 0 }:aB) with aG:=.slice (some ⟨m,0,none⟩) n3 n3 } { ({ ({ (M1:aI) with orders:=[] }:aI) with aN:=[] }:aI) with aG:=List.replicate n3 0 } (WF1MOL.setCell ⟨b,7,none⟩ (.slice (some ⟨m,0,none⟩) n3 n3)) from F1MOL.o.oz 0 rfl OF1MOL.o (fun y hy k h1 h2=>by simp[Value.ownBlock] at h2;have:=rW MB.o y hy k h1;omega) (fun x hx e=>by
   simp[Value.ownBlock] at e;rcases List.mem_cons.1 hx with rfl|hx
   ·have:=MX.o _ (List.mem_cons_self ..);simp only at this e;omega
   have:=MX.o x (List.mem_cons_of_mem _ hx);omega))
  have yc:=F1MOL.o.at_.cell 0 rfl 7 rfl;have zc:=F1MOL.o.at_.free 0 rfl 7;refine aF.bW (by kernel_rfl) rfl (by kernel_rfl) (fun K hK=>?_)
  simp only[ay,nth]
  refine aA ?_;go_simp;obtain⟨WF1MOLA,hWF1MOLA⟩:=Zn (WF1MOL.setCell ⟨b,7,none⟩ (.slice (some ⟨m,0,none⟩) n3 n3));rw[<-hWF1MOLA] at F1MOLA;rw[<-hWF1MOLA];refine hK _ _ ?_;have HM:=zq (show WF1MOLA.heap.size=m+1 from by rw[hWF1MOLA];simp[World.setCell];try exact HM.o);clear hK hWF1MOLA yc zc;refine aF.aZ ?_;obtain⟨W9,hW9⟩:=Zn WF1MOLA;have F9:=zq (show dA w R0 ((b, 57,({ V1 with orders:=.slice none 0 0,aN:=.slice none 0 0,aG:=.slice (some ⟨m,0,none⟩) n3 n3 }:aB).cells M1)::(bx, 54,#[.pointer (some ⟨b,0,none⟩)])::rest) { V1 with orders:=.slice none 0 0,aN:=.slice none 0 0,aG:=.slice (some ⟨m,0,none⟩) n3 n3 } { M1 with orders:=[],aN:=[],aG:=List.replicate n3 0 } W9 from by rw[hW9];exact F1MOLA.o);rw[<-hW9];clear hW9;obtain⟨V9,hV9⟩:∃ U:aB,U={ V1 with orders:=.slice none 0 0,aN:=.slice none 0 0,aG:=.slice (some ⟨m,0,none⟩) n3 n3 }:=⟨_,rfl⟩;rw[<-hV9] at F9;clear hV9 jz;have y0:W9.cell? ⟨b,0,none⟩=some (.int .i64 M1.day):=F9.o.at_.cell 0 rfl 0 rfl;have z0:W9.frozen? ⟨b,0,none⟩=false:=F9.o.at_.free 0 rfl 0;have jx:W9.cell? ⟨bx,0,none⟩=some (.pointer (some ⟨b,0,none⟩)):=F9.o.at_.cell 1 rfl 0 rfl;have FZ:=zq (F9.o.cell 0 rfl 0 (.int .i64 (M1.day+1)));have jy:=zq (FZ.o.at_.cell 1 rfl 0 rfl)
  go_upto_region 11 with (fail)
  obtain⟨WZ,hWZ⟩:=Zn (W9.setCell ⟨b,0,none⟩ (.int .i64 (M1.day+1)));have FX:=zq (show dA w R0 ((b, 57,V9.cells { M1 with day:=M1.day+1 })::(bx, 54,#[.pointer (some ⟨b,0,none⟩)])::rest) V9 { M1 with day:=M1.day+1,orders:=[],aN:=[],aG:=List.replicate n3 0 } WZ from by
   rw[hWZ];have f:=FZ.o;exact⟨f.at_,⟨f.own.aS,f.own.ah,f.own.af,f.own.same,f.own.ai,f.own.aT,f.own.au,f.own.orders,f.own.aG,f.own.aN,f.own.sep,f.own.names,f.own.nums⟩,f.sD,f.rb,f.lo⟩)
  rw[<-hWZ];clear hWZ FZ y0 z0 jx jy;have y0:WZ.cell? ⟨b,0,none⟩=some (.int .i64 (M1.day+1)):=FX.o.at_.cell 0 rfl 0 rfl;have jx:WZ.cell? ⟨bx,0,none⟩=some (.pointer (some ⟨b,0,none⟩)):=FX.o.at_.cell 1 rfl 0 rfl
  go_wp2_with fail
  go_ret;exact FIN.o V9 WZ FX.o
 have F1O:=zq (show dA w R0 ((b, 57,({ (V1:aB) with orders:=.slice none 0 0 }:aB).cells M1)::(bx, 54,#[.pointer (some ⟨b,0,none⟩)])::rest) { (V1:aB) with orders:=.slice none 0 0 } { (M1:aI) with orders:=[] } (WD.setCell ⟨b,6,none⟩ (.slice none 0 0)) from F1.o.Au 0 rfl);have yc:=F1.o.at_.cell 0 rfl 6 rfl;have zc:=F1.o.at_.free 0 rfl 6;refine aF.aK (by kernel_rfl) rfl (fun K hK=>?_)
 simp only[ay,nth]
 refine aA ?_;go_simp;obtain⟨WF1O,hWF1O⟩:=Zn (WD.setCell ⟨b,6,none⟩ (.slice none 0 0));rw[<-hWF1O] at F1O;rw[<-hWF1O];refine hK _ _ (fun _=>⟨⟨_,F1O.o.at_.cell 1 rfl 0 rfl⟩,rfl⟩) ?_;have HM:=zq (show WF1O.heap.size=m from by rw[hWF1O];simp[World.setCell];try exact HM.o);clear hK hWF1O yc zc;refine aF.bF [14,15,16] (by kernel_rfl) ?_
 simp only[ay,nth]
 repeat (go_big_quiet_step (fail))
 refine wpQuiet_nil ?_;refine aF.jO ?_ ?_
 ·have hF1OM:=zq (show WF1O.heap.size=m from by first|rfl|(simp[World.setCell];done)|(have:=HM.o;simp_all [World.setCell]));have F1OM:=zq (F1O.o.go ((Below.refl _ _).alloc (Nat.le_refl _) (.cells (madeCells #[.int .i64 0] n3) 3)));have OF1OM:=zq (show aV (WF1O.alloc (.cells (madeCells #[.int .i64 0] n3) 3)) R0 3 1 cO (.slice (some ⟨m,0,none⟩) n3 n3) (List.replicate n3 0) from by have o:=tK (WF1O) R0 n3 F1O.o.rb (by unfold maxLen;have:=U12.o;omega);rw[hF1OM.o] at o;exact o);refine aF.aK (by kernel_rfl) rfl (fun K hK=>?_)
  simp only[ay,nth]
  refine aA ?_;go_simp;obtain⟨WF1OM,hWF1OM⟩:=Zn (WF1O.alloc (.cells (madeCells #[.int .i64 0] n3) 3));rw[<-hWF1OM] at F1OM OF1OM;rw[hF1OM.o];rw[<-hWF1OM];refine hK _ _ (fun _=>⟨⟨_,F1OM.o.at_.cell 1 rfl 0 rfl⟩,rfl⟩) ?_;have HM:=zq (show WF1OM.heap.size=m+1 from by rw[hWF1OM];simp[World.setCell];try exact HM.o);clear hK hWF1OM;have F1OML:=zq (show dA w R0 ((b, 57,({ ({ (V1:aB) with orders:=.slice none 0 0 }:aB) with aN:=.slice none 0 0 }:aB).cells M1)::(bx, 54,#[.pointer (some ⟨b,0,none⟩)])::rest) { ({ (V1:aB) with orders:=.slice none 0 0 }:aB) with aN:=.slice none 0 0 } { ({ (M1:aI) with orders:=[] }:aI) with aN:=[] } (WF1OM.setCell ⟨b,8,none⟩ (.slice none 0 0)) from F1OM.o.IU 0 rfl);have OF1OML:=zq (OF1OM.o.mod ((Mod.refl (fun k=>k=b) (WF1OM)).setCell (p:=⟨b,8,none⟩) (.slice none 0 0) (fun _=>rfl)) (fun k hk e=>by simp[Value.ownBlock] at hk;have:=MX.o (b, 57,V1.cells M1) (by simp);simp only at this;omega));have yc:=F1OM.o.at_.cell 0 rfl 8 rfl;have zc:=F1OM.o.at_.free 0 rfl 8;refine aF.aK (by kernel_rfl) rfl (fun K hK=>?_)
  simp only[ay,nth]
  refine aA ?_;go_simp;obtain⟨WF1OML,hWF1OML⟩:=Zn (WF1OM.setCell ⟨b,8,none⟩ (.slice none 0 0));rw[<-hWF1OML] at F1OML OF1OML;rw[<-hWF1OML];refine hK _ _ (fun _=>⟨⟨_,F1OML.o.at_.cell 1 rfl 0 rfl⟩,rfl⟩) ?_;have HM:=zq (show WF1OML.heap.size=m+1 from by rw[hWF1OML];simp[World.setCell];try exact HM.o);clear hK hWF1OML yc zc;refine aF.aC [18,19,20] (by kernel_rfl) ?_
  simp only[ay,nth]
  repeat (go_big_quiet_step (fail))
  refine wpQuiet_nil ?_;have F1OMLA:=zq (show dA w R0 ((b, 57,({ ({ ({ (V1:aB) with orders:=.slice none 0 0 }:aB) with aN:=.slice none 0 0 }:aB) with aG:=.slice (some ⟨m,0,none⟩) n3 n3 }:aB).cells M1)::(bx, 54,#[.pointer (some ⟨b,0,none⟩)])::rest) { ({ ({ (V1:aB) with orders:=.slice none 0 0 }:aB) with aN:=.slice none 0 0 }:aB) with aG:=.slice (some ⟨m,0,none⟩) n3 n3 } { ({ ({ (M1:aI) with orders:=[] }:aI) with aN:=[] }:aI) with aG:=List.replicate n3 0 } (WF1OML.setCell ⟨b,7,none⟩ (.slice (some ⟨m,0,none⟩) n3 n3)) from F1OML.o.oz 0 rfl OF1OML.o (fun y hy k h1 h2=>by simp[Value.ownBlock] at h2;have:=rW MB.o y hy k h1;omega) (fun x hx e=>by
   simp[Value.ownBlock] at e;rcases List.mem_cons.1 hx with rfl|hx
   ·have:=MX.o _ (List.mem_cons_self ..);simp only at this e;omega
   have:=MX.o x (List.mem_cons_of_mem _ hx);omega))
  have yc:=F1OML.o.at_.cell 0 rfl 7 rfl;have zc:=F1OML.o.at_.free 0 rfl 7;refine aF.bW (by kernel_rfl) rfl (by kernel_rfl) (fun K hK=>?_)
  simp only[ay,nth]
  refine aA ?_;go_simp;obtain⟨WF1OMLA,hWF1OMLA⟩:=Zn (WF1OML.setCell ⟨b,7,none⟩ (.slice (some ⟨m,0,none⟩) n3 n3));rw[<-hWF1OMLA] at F1OMLA;rw[<-hWF1OMLA];refine hK _ _ ?_;have HM:=zq (show WF1OMLA.heap.size=m+1 from by rw[hWF1OMLA];simp[World.setCell];try exact HM.o);clear hK hWF1OMLA yc zc;refine aF.aZ ?_;obtain⟨W9,hW9⟩:=Zn WF1OMLA;have F9:=zq (show dA w R0 ((b, 57,({ V1 with orders:=.slice none 0 0,aN:=.slice none 0 0,aG:=.slice (some ⟨m,0,none⟩) n3 n3 }:aB).cells M1)::(bx, 54,#[.pointer (some ⟨b,0,none⟩)])::rest) { V1 with orders:=.slice none 0 0,aN:=.slice none 0 0,aG:=.slice (some ⟨m,0,none⟩) n3 n3 } { M1 with orders:=[],aN:=[],aG:=List.replicate n3 0 } W9 from by rw[hW9];exact F1OMLA.o);rw[<-hW9];clear hW9;obtain⟨V9,hV9⟩:∃ U:aB,U={ V1 with orders:=.slice none 0 0,aN:=.slice none 0 0,aG:=.slice (some ⟨m,0,none⟩) n3 n3 }:=⟨_,rfl⟩;rw[<-hV9] at F9;clear hV9 jz;have y0:W9.cell? ⟨b,0,none⟩=some (.int .i64 M1.day):=F9.o.at_.cell 0 rfl 0 rfl;have z0:W9.frozen? ⟨b,0,none⟩=false:=F9.o.at_.free 0 rfl 0;have jx:W9.cell? ⟨bx,0,none⟩=some (.pointer (some ⟨b,0,none⟩)):=F9.o.at_.cell 1 rfl 0 rfl;have FZ:=zq (F9.o.cell 0 rfl 0 (.int .i64 (M1.day+1)));have jy:=zq (FZ.o.at_.cell 1 rfl 0 rfl)
  go_upto_region 11 with (fail)
  obtain⟨WZ,hWZ⟩:=Zn (W9.setCell ⟨b,0,none⟩ (.int .i64 (M1.day+1)));have FX:=zq (show dA w R0 ((b, 57,V9.cells { M1 with day:=M1.day+1 })::(bx, 54,#[.pointer (some ⟨b,0,none⟩)])::rest) V9 { M1 with day:=M1.day+1,orders:=[],aN:=[],aG:=List.replicate n3 0 } WZ from by
   rw[hWZ];have f:=FZ.o;exact⟨f.at_,⟨f.own.aS,f.own.ah,f.own.af,f.own.same,f.own.ai,f.own.aT,f.own.au,f.own.orders,f.own.aG,f.own.aN,f.own.sep,f.own.names,f.own.nums⟩,f.sD,f.rb,f.lo⟩)
  rw[<-hWZ];clear hWZ FZ y0 z0 jx jy;have y0:WZ.cell? ⟨b,0,none⟩=some (.int .i64 (M1.day+1)):=FX.o.at_.cell 0 rfl 0 rfl;have jx:WZ.cell? ⟨bx,0,none⟩=some (.pointer (some ⟨b,0,none⟩)):=FX.o.at_.cell 1 rfl 0 rfl
  go_wp2_with fail
  go_ret;exact FIN.o V9 WZ FX.o
 have F1OL:=zq (show dA w R0 ((b, 57,({ ({ (V1:aB) with orders:=.slice none 0 0 }:aB) with aN:=.slice none 0 0 }:aB).cells M1)::(bx, 54,#[.pointer (some ⟨b,0,none⟩)])::rest) { ({ (V1:aB) with orders:=.slice none 0 0 }:aB) with aN:=.slice none 0 0 } { ({ (M1:aI) with orders:=[] }:aI) with aN:=[] } (WF1O.setCell ⟨b,8,none⟩ (.slice none 0 0)) from F1O.o.IU 0 rfl);have yc:=F1O.o.at_.cell 0 rfl 8 rfl;have zc:=F1O.o.at_.free 0 rfl 8;refine aF.aK (by kernel_rfl) rfl (fun K hK=>?_)
 simp only[ay,nth]
 refine aA ?_;go_simp;obtain⟨WF1OL,hWF1OL⟩:=Zn (WF1O.setCell ⟨b,8,none⟩ (.slice none 0 0));rw[<-hWF1OL] at F1OL;rw[<-hWF1OL];refine hK _ _ (fun _=>⟨⟨_,F1OL.o.at_.cell 1 rfl 0 rfl⟩,rfl⟩) ?_;have HM:=zq (show WF1OL.heap.size=m from by rw[hWF1OL];simp[World.setCell];try exact HM.o);clear hK hWF1OL yc zc;have hF1OLM:=zq (show WF1OL.heap.size=m from by first|rfl|(simp[World.setCell];done)|(have:=HM.o;simp_all [World.setCell]));have F1OLM:=zq (F1OL.o.go ((Below.refl _ _).alloc (Nat.le_refl _) (.cells (madeCells #[.int .i64 0] n3) 3)));have OF1OLM:=zq (show aV (WF1OL.alloc (.cells (madeCells #[.int .i64 0] n3) 3)) R0 3 1 cO (.slice (some ⟨m,0,none⟩) n3 n3) (List.replicate n3 0) from by have o:=tK (WF1OL) R0 n3 F1OL.o.rb (by unfold maxLen;have:=U12.o;omega);rw[hF1OLM.o] at o;exact o);refine aF.aK (by kernel_rfl) rfl (fun K hK=>?_)
 simp only[ay,nth]
 refine aA ?_;go_simp;obtain⟨WF1OLM,hWF1OLM⟩:=Zn (WF1OL.alloc (.cells (madeCells #[.int .i64 0] n3) 3));rw[<-hWF1OLM] at F1OLM OF1OLM;rw[hF1OLM.o];rw[<-hWF1OLM];refine hK _ _ (fun _=>⟨⟨_,F1OLM.o.at_.cell 1 rfl 0 rfl⟩,rfl⟩) ?_;have HM:=zq (show WF1OLM.heap.size=m+1 from by rw[hWF1OLM];simp[World.setCell];try exact HM.o);clear hK hWF1OLM;refine aF.aC [18,19,20] (by kernel_rfl) ?_
 simp only[ay,nth]
 repeat (go_big_quiet_step (fail))
 refine wpQuiet_nil ?_;have F1OLMA:=zq (show dA w R0 ((b, 57,({ ({ ({ (V1:aB) with orders:=.slice none 0 0 }:aB) with aN:=.slice none 0 0 }:aB) with aG:=.slice (some ⟨m,0,none⟩) n3 n3 }:aB).cells M1)::(bx, 54,#[.pointer (some ⟨b,0,none⟩)])::rest) { ({ ({ (V1:aB) with orders:=.slice none 0 0 }:aB) with aN:=.slice none 0 0 }:aB) with aG:=.slice (some ⟨m,0,none⟩) n3 n3 } { ({ ({ (M1:aI) with orders:=[] }:aI) with aN:=[] }:aI) with aG:=List.replicate n3 0 } (WF1OLM.setCell ⟨b,7,none⟩ (.slice (some ⟨m,0,none⟩) n3 n3)) from F1OLM.o.oz 0 rfl OF1OLM.o (fun y hy k h1 h2=>by simp[Value.ownBlock] at h2;have:=rW MB.o y hy k h1;omega) (fun x hx e=>by
  simp[Value.ownBlock] at e;rcases List.mem_cons.1 hx with rfl|hx
  ·have:=MX.o _ (List.mem_cons_self ..);simp only at this e;omega
  have:=MX.o x (List.mem_cons_of_mem _ hx);omega))
 have yc:=F1OLM.o.at_.cell 0 rfl 7 rfl;have zc:=F1OLM.o.at_.free 0 rfl 7;refine aF.bW (by kernel_rfl) rfl (by kernel_rfl) (fun K hK=>?_)
 simp only[ay,nth]
 refine aA ?_;go_simp;obtain⟨WF1OLMA,hWF1OLMA⟩:=Zn (WF1OLM.setCell ⟨b,7,none⟩ (.slice (some ⟨m,0,none⟩) n3 n3));rw[<-hWF1OLMA] at F1OLMA;rw[<-hWF1OLMA];refine hK _ _ ?_;have HM:=zq (show WF1OLMA.heap.size=m+1 from by rw[hWF1OLMA];simp[World.setCell];try exact HM.o);clear hK hWF1OLMA yc zc;refine aF.aZ ?_;obtain⟨W9,hW9⟩:=Zn WF1OLMA;have F9:=zq (show dA w R0 ((b, 57,({ V1 with orders:=.slice none 0 0,aN:=.slice none 0 0,aG:=.slice (some ⟨m,0,none⟩) n3 n3 }:aB).cells M1)::(bx, 54,#[.pointer (some ⟨b,0,none⟩)])::rest) { V1 with orders:=.slice none 0 0,aN:=.slice none 0 0,aG:=.slice (some ⟨m,0,none⟩) n3 n3 } { M1 with orders:=[],aN:=[],aG:=List.replicate n3 0 } W9 from by rw[hW9];exact F1OLMA.o);rw[<-hW9];clear hW9;obtain⟨V9,hV9⟩:∃ U:aB,U={ V1 with orders:=.slice none 0 0,aN:=.slice none 0 0,aG:=.slice (some ⟨m,0,none⟩) n3 n3 }:=⟨_,rfl⟩;rw[<-hV9] at F9;clear hV9 jz;have y0:W9.cell? ⟨b,0,none⟩=some (.int .i64 M1.day):=F9.o.at_.cell 0 rfl 0 rfl;have z0:W9.frozen? ⟨b,0,none⟩=false:=F9.o.at_.free 0 rfl 0;have jx:W9.cell? ⟨bx,0,none⟩=some (.pointer (some ⟨b,0,none⟩)):=F9.o.at_.cell 1 rfl 0 rfl;have FZ:=zq (F9.o.cell 0 rfl 0 (.int .i64 (M1.day+1)));have jy:=zq (FZ.o.at_.cell 1 rfl 0 rfl)
 go_upto_region 11 with (fail)
 obtain⟨WZ,hWZ⟩:=Zn (W9.setCell ⟨b,0,none⟩ (.int .i64 (M1.day+1)));have FX:=zq (show dA w R0 ((b, 57,V9.cells { M1 with day:=M1.day+1 })::(bx, 54,#[.pointer (some ⟨b,0,none⟩)])::rest) V9 { M1 with day:=M1.day+1,orders:=[],aN:=[],aG:=List.replicate n3 0 } WZ from by
  rw[hWZ];have f:=FZ.o;exact⟨f.at_,⟨f.own.aS,f.own.ah,f.own.af,f.own.same,f.own.ai,f.own.aT,f.own.au,f.own.orders,f.own.aG,f.own.aN,f.own.sep,f.own.names,f.own.nums⟩,f.sD,f.rb,f.lo⟩)
 rw[<-hWZ];clear hWZ FZ y0 z0 jx jy;have y0:WZ.cell? ⟨b,0,none⟩=some (.int .i64 (M1.day+1)):=FX.o.at_.cell 0 rfl 0 rfl;have jx:WZ.cell? ⟨bx,0,none⟩=some (.pointer (some ⟨b,0,none⟩)):=FX.o.at_.cell 1 rfl 0 rfl
 go_wp2_with fail
 go_ret;exact FIN.o V9 WZ FX.o
end Go.Proofs.YtcepekniflaoaaaGreatDoor
