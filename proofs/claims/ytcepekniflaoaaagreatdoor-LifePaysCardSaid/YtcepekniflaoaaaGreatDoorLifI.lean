/- life's calls on the turn: Rename. -/
import Derived.Test.YtcepekniflaoaaaGreatDoorLifC
import Derived.Test.YtcepekniflaoaaaGreatDoorHk
set_option linter.unusedVariables false
set_option linter.unusedSimpArgs false
set_option maxRecDepth 100000
set_option maxHeartbeats 4000000
namespace Go.Proofs.YtcepekniflaoaaaGreatDoor
open Go.RowKit Go.Bw Go.Maps Go.Shelf Go.Bw.Fall
theorem Qx (w:World) (L:aI) (hG:L.Good) (u:Int) (s:ByteArray) (hs:s.size<=maxLen) (pu ps:Nat) :
 lQ w L 49 #[.pointer (some ⟨pu,0,none⟩),.pointer (some ⟨ps,0,none⟩)] [(pu, 3,#[.int .i64 u]),(ps, 9,#[.string s])] (dY L u s):=by
 classical
 intro W R0 b V rest F;have FF:=zq F;obtain⟨a2,c2,e2⟩:=F.own.led.ah.form;have E2:=zq e2;obtain⟨n2,hn2⟩:=Zn L.ah.length;have N2:=zq hn2;have HS:=zq hs;have y2:W.cell? ⟨b,2,none⟩=some (.slice a2 n2 c2):=F.at_.cell 0 rfl 2 (by rw[hn2,<-e2];rfl);have x0:W.cell? ⟨pu,0,none⟩=some (.int .i64 u):=F.at_.cell 1 rfl 0 rfl;clear F e2 hn2 hG hs;by_cases h0:0<=u
 ·obtain⟨k,rfl⟩:∃ k:Nat,u=k:=⟨u.toNat,by omega⟩
  go_enter Tryz.func49,Tryz.ntmps49
  go_wp2_with fail
  refine aG.aU (C:=fun w'=>True) [12] [] (.step 0 (.step 1 (.step 2 (.step 3 (.step 4 (.step 5 (.step 6 (.step 7 (.step 8 (.step 9 (.step 10 (.step 11 (.step 12 .leaf))))))))))))) (fun ch d w'=>d=[]/\iR (dY L (k:Int) s) w R0 b rest (.panicked ch) w') (by kernel_rfl) (fun _ _ _ h=>⟨h.1,h.2⟩) (by kernel_rfl) trivial ?_;refine aG.aB [0,1,2,3,4,5,6,7,8,9,10,11] (by kernel_rfl) ?_
  simp only[au,nth]
  repeat (go_big_quiet_step (fail))
  refine wpQuiet_nil ?_;refine aG.bV (by kernel_rfl) rfl (by kernel_rfl) (fun K hK=>?_)
  simp only[au,nth]
  refine ay ?_;go_simp;refine (iV (k<n2) 31 _).mono ?_;rintro e w' ⟨he,rfl⟩;rcases Or.symm he with ⟨hlt,rfl⟩|⟨hlt,rfl⟩
  ·exact⟨rfl,dJ (by unfold dY;rw[if_neg (by have:=N2.o;omega)];rfl) (by decide) FF.o.drew.at_⟩
  go_simp;refine hK _ _ ?_;clear hK;refine aG.bG ?_;have hk':=zq (show k<L.ah.length from by rw[<-N2.o];omega);have FA:=zq FF.o.drew;obtain⟨WA,hWA⟩:=Zn W.drew;rw[<-hWA] at FA ⊢;clear hWA y2 x0 h0 he hlt;have NM:=zq (fun W=>name_any s HS.o W);obtain⟨NB,hNB⟩:=Zn (nameB s);rw[<-hNB] at NM;have EB:=zq hNB;clear hNB;have x1:WA.cell? ⟨ps,0,none⟩=some (.string s):=FA.o.at_.cell 2 rfl 0 rfl
  go_wp2_with fail
  refine aG.aU (C:=fun w'=>True) [1,9,12] [] (.step 0 (.step 1 (.step 2 (.step 3 (.step 4 (.step 5 (.step 6 (.step 7 (.step 8 (.step 9 (.step 10 (.step 11 (.step 12 .leaf))))))))))))) (fun ch d w'=>d=[]/\iR (dY L (k:Int) s) w R0 b rest (.panicked ch) w') (by kernel_rfl) (fun _ _ _ h=>⟨h.1,h.2⟩) (by kernel_rfl) trivial ?_;refine aG.aB [0] (by kernel_rfl) ?_
  simp only[au,nth]
  repeat (go_big_quiet_step (fail))
  refine wpQuiet_nil ?_;refine aG.bV (by kernel_rfl) rfl (by kernel_rfl) (fun K hK=>?_)
  simp only[au,nth]
  refine ay ?_;go_simp;refine (NM.o _).mono ?_;rintro e w1 ⟨rfl,hb⟩;have F1:=zq (FA.o.drew.go hb);clear hb x1 NM;go_simp;refine hK _ _ ?_;clear hK;have y2:w1.cell? ⟨b,2,none⟩=some (.slice a2 n2 c2):=F1.o.at_.cell 0 rfl 2 (by rw[N2.o,<-E2.o];rfl);have x1:w1.cell? ⟨ps,0,none⟩=some (.string s):=F1.o.at_.cell 2 rfl 0 rfl
  cases hNB:NB with
  | false =>
    subst hNB;refine aG.aB [2,3,4,5,6,7,8] (by kernel_rfl) ?_
    simp only[au,nth]
    repeat (go_big_quiet_step (fail))
    refine wpQuiet_nil ?_;refine aG.JX (by kernel_rfl) rfl (by rfl) (fun h=>by cases h) ?_;go_simp;refine aG.aB [10,11] (by kernel_rfl) ?_
    simp only[au,nth]
    repeat (go_big_quiet_step (fail))
    refine wpQuiet_nil ?_;refine aG.bV (by kernel_rfl) rfl (by kernel_rfl) (fun K hK=>?_)
    simp only[au,nth]
    refine ay ?_;go_simp;refine (dX 42 _).mono ?_;rintro e w' ⟨rfl,rfl⟩;exact⟨rfl,dJ (by unfold dY;rw[if_pos (by have:=hk'.o;omega),if_neg (fun h=>by rw[EB.o.symm] at h;exact absurd h.1 (by decide))];rfl) (by decide) F1.o.at_⟩
  | true =>
    subst hNB;refine aG.aB [2,3,4,5,6,7,8] (by kernel_rfl) ?_
    simp only[au,nth]
    repeat (go_big_quiet_step (fail))
    refine wpQuiet_nil ?_;have NA:=zq (yR w1 V.ah L.ah s F1.o.own.led.ah);rw[E2.o,<-N2.o] at NA;obtain⟨ix,hix⟩:=Zn (jl (fun x:dU=>x.name.toList==s.toList) L.ah);rw[<-hix] at NA;have IX:=zq (show ix<0↔∀ x∈L.ah,x.name≠s from by
     rw[hix,Oi];refine⟨fun h x hx e=>?_,fun h x hx=>Bool.eq_false_iff.2 fun e=>h x hx ((iH _ _).1 e)⟩;have:=h x hx;rw[(iH _ _).2 e] at this
     cases this)
    clear hix;refine aG.JW (by kernel_rfl) (by rfl) (fun K hK=>?_)
    simp only[au,nth]
    refine ay ?_;go_simp;refine NA.o.mono ?_;rintro e w2 ⟨rfl,hb⟩;have F2:=zq (F1.o.go hb);clear hb x1 y2 NA;go_simp;refine hK _ _ (fun h=>by cases h) ?_;clear hK;refine aG.aB [10,11] (by kernel_rfl) ?_
    simp only[au,nth]
    repeat (go_big_quiet_step (fail))
    refine wpQuiet_nil ?_;refine aG.bV (by kernel_rfl) rfl (by kernel_rfl) (fun K hK=>?_)
    simp only[au,nth]
    refine ay ?_;go_simp;refine (iV (ix<0) 42 _).mono ?_;rintro e w' ⟨he,rfl⟩;rcases Or.symm he with ⟨hix,rfl⟩|⟨hix,rfl⟩
    ·exact⟨rfl,dJ (by unfold dY;rw[if_pos (by have:=hk'.o;omega),if_neg (fun h=>hix (IX.o.2 h.2))];rfl) (by decide) F2.o.at_⟩
    go_simp;refine hK _ _ ?_;clear hK;refine aG.bG ?_;have NN:=zq (show nameB s=true/\∀ x∈L.ah,x.name≠s from ⟨EB.o.symm,IX.o.1 hix⟩);clear he hix IX;have UA:=zq (aI.Ag hk'.o);obtain⟨g,cg,hv,_,_,hcell,hz⟩:=F2.o.own.ah.slot gq (by decide) UA.o;have HV:=zq hv;have HZ:=zq (hz (k*4));have y2:w2.cell? ⟨b,2,none⟩=some (.slice (some ⟨g,0,none⟩) n2 cg):=F2.o.at_.cell 0 rfl 2 (by rw[N2.o,<-hv];rfl);have x0:w2.cell? ⟨pu,0,none⟩=some (.int .i64 (k:Int)):=F2.o.at_.cell 1 rfl 0 rfl;have x1:w2.cell? ⟨ps,0,none⟩=some (.string s):=F2.o.at_.cell 2 rfl 0 rfl;have q0:w2.cell? ⟨g,k*4,none⟩=some (.string (L.und k).name):=by have:=hcell 0 _ rfl;simpa using this
    have k0:(0:Int)<=(k:Int):=by omega
    have k1:(k:Int)<(n2:Int):=by have:=hk'.o;have:=N2.o;omega
    clear hv hcell hz
    go_wp2_with fail
    refine aG.wz [9] [] (.step 0 (.step 1 (.step 2 (.step 3 (.step 4 (.step 5 (.step 6 (.step 7 (.step 8 (.step 9 .leaf)))))))))) (by kernel_rfl) (by kernel_rfl) ?_;refine aG.aB [0,1,2,3,4,5,6,7,8] (by kernel_rfl) ?_
    simp only[au,nth]
    repeat (go_big_quiet_step (fail))
    refine wpQuiet_nil ?_;have q0':w2.drew.cell? ⟨g,k*4,none⟩=some (.string (L.und k).name):=q0;have zf:w2.drew.frozen? ⟨g,k*4,none⟩=false:=HZ.o;refine aG.bV (by kernel_rfl) rfl (by kernel_rfl) (fun K hK=>?_)
    simp only[au,nth]
    refine ay ?_;go_simp;refine hK _ _ ?_;clear hK zf q0 q0' x0 x1 y2;refine aG.bG ?_;obtain⟨WE,hWE⟩:=Zn ((w2.setCell ⟨g,k*4,none⟩ (.string s)).drew);have FE:=zq (show dS w R0 ((b, 57,V.cells L)::(pu, 3,#[.int .i64 (k:Int)])::(ps, 9,#[.string s])::rest) V { L with ah:=L.ah.set k { L.und k with name:=s } } WE from by
     obtain⟨o1,m1⟩:=F2.o.own.kF (x':={ L.und k with name:=s }) (u:=.string s) (j:=0) HV.o UA.o (by decide) rfl HS.o;rw[hWE];exact (F2.o.row o1 m1 (q:=1) rfl (by rw[HV.o];rfl) rfl).drew)
    rw[<-hWE];clear hWE;have x0:WE.cell? ⟨pu,0,none⟩=some (.int .i64 (k:Int)):=FE.o.at_.cell 1 rfl 0 rfl
    go_wp2_with fail
    go_ret;refine zO (V:=V) (L:={ L with ah:=L.ah.set k { L.und k with name:=s } }) ?_ FE.o;unfold dY;rw[if_pos (by have:=hk'.o;omega),if_pos NN.o,Int.toNat_natCast]
 have hr:=zq (show (dY L u s).err=31 from by unfold dY;rw[if_neg (by omega)];rfl);have d0:decide (0<=u)=false:=decide_eq_false h0
 go_enter Tryz.func49,Tryz.ntmps49
 go_wp2_with fail
 refine aG.aU (C:=fun w'=>True) [12] [] (.step 0 (.step 1 (.step 2 (.step 3 (.step 4 (.step 5 (.step 6 (.step 7 (.step 8 (.step 9 (.step 10 (.step 11 (.step 12 .leaf))))))))))))) (fun ch d w'=>d=[]/\iR (dY L u s) w R0 b rest (.panicked ch) w') (by kernel_rfl) (fun _ _ _ h=>⟨h.1,h.2⟩) (by kernel_rfl) trivial ?_;refine aG.aB [0,1,2,3,4,5,6,7,8,9,10,11] (by kernel_rfl) ?_
 simp only[au,nth]
 repeat (go_big_quiet_step (fail))
 refine wpQuiet_nil ?_;refine aG.bV (by kernel_rfl) rfl (by kernel_rfl) (fun K hK=>?_)
 simp only[au,nth]
 refine ay ?_;go_simp;refine (dX 31 _).mono ?_;rintro e w' ⟨rfl,rfl⟩;exact⟨rfl,dJ hr.o (by decide) FF.o.drew.at_⟩
end Go.Proofs.YtcepekniflaoaaaGreatDoor
