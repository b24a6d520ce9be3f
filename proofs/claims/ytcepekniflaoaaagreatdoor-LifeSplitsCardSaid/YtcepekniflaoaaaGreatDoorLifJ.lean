/- life's calls on the turn: Dividend. -/
import Derived.Test.YtcepekniflaoaaaGreatDoorHd
set_option linter.unusedVariables false
set_option linter.unusedSimpArgs false
set_option maxRecDepth 100000
set_option maxHeartbeats 8000000
namespace Go.Proofs.YtcepekniflaoaaaGreatDoor
open Go.RowKit Go.Bw Go.Maps Go.Shelf Go.Bw.Fall
theorem KH {i:Ins} {q v x:Int} (h:dZ i q v=(x,0)):I64 x:=by
 unfold dZ at h;rcases jW q i.mult with ⟨h1,_⟩|h1
 ·rw[if_pos h1] at h;rcases jW (fG q i.mult).1 v with ⟨_,h2⟩|h2
  ·rw[h] at h2;exact I64.bU h2
  rw[h2] at h;injection h with _ h;cases h
 rw[h1] at h;simp at h
theorem Rt (w:World) (L:aH) (hG:L.Good) (u x:Int) (pu px:Nat) :
 pX w L 44 #[.pointer (some ⟨pu,0,none⟩),.pointer (some ⟨px,0,none⟩)] [(pu, 3,#[.int .i64 u]),(px, 3,#[.int .i64 x])] (mX L u x):=by
 classical
 intro W R0 b V rest F;have FF:=zq F;have HG:=zq hG;obtain⟨a2,c2,e2⟩:=F.own.led.ah.form;obtain⟨a5,c5,e5⟩:=F.own.led.au.form;have E2:=zq e2;have E5:=zq e5;obtain⟨n2,hn2⟩:=Zn L.ah.length;obtain⟨n5,hn5⟩:=Zn L.au.length;have N2:=zq hn2;have N5:=zq hn5;have AC:=zq (oK hG);have y2:W.cell? ⟨b,2,none⟩=some (.slice a2 n2 c2):=F.at_.cell 0 rfl 2 (by rw[hn2,<-e2];rfl);have x0:W.cell? ⟨pu,0,none⟩=some (.int .i64 u):=F.at_.cell 1 rfl 0 rfl;clear F e2 e5 hn2 hn5 hG;by_cases h0:0<=u
 ·obtain⟨kk,rfl⟩:∃ k:Nat,u=k:=⟨u.toNat,by omega⟩
  go_enter Tryz.func44,Tryz.ntmps44
  go_wp2_with fail
  refine aI.aX (C:=fun w'=>True) [12] [] (.step 0 (.step 1 (.step 2 (.step 3 (.step 4 (.step 5 (.step 6 (.step 7 (.step 8 (.step 9 (.step 10 (.step 11 (.step 12 .leaf))))))))))))) (fun ch d w'=>d=[]/\jO (mX L (kk:Int) x) w R0 b rest (.panicked ch) w') (by kernel_rfl) (fun _ _ _ h=>⟨h.1,h.2⟩) (by kernel_rfl) trivial ?_;refine aI.aC [0,1,2,3,4,5,6,7,8,9,10,11] (by kernel_rfl) ?_
  simp only[ay,nth]
  repeat (go_big_quiet_step (fail))
  refine wpQuiet_nil ?_;refine aI.dm (by kernel_rfl) rfl (by kernel_rfl) (fun K hK=>?_)
  simp only[ay,nth]
  refine aA ?_;go_simp;refine (kT (kk<n2) 31 _).mono ?_;rintro e w' ⟨he,rfl⟩;rcases Or.symm he with ⟨hlt,rfl⟩|⟨hlt,rfl⟩
  ·exact⟨rfl,dS (by unfold mX;rw[if_neg (by have:=N2.o;omega)];rfl) (by decide) FF.o.drew.at_⟩
  go_simp;refine hK _ _ ?_;clear hK;refine aI.bH ?_;have hk':=zq (show kk<L.ah.length from by rw[<-N2.o];omega);have FA:=zq FF.o.drew;obtain⟨WA,hWA⟩:=Zn W.drew;have MA:=zq (show Mod (fun k=>k=b) W WA from by rw[hWA];exact (Mod.refl _ W).drew);rw[<-hWA] at FA ⊢;clear hWA y2 x0 h0 he hlt;have x1:WA.cell? ⟨px,0,none⟩=some (.int .i64 x):=FA.o.at_.cell 2 rfl 0 rfl;have y5:WA.cell? ⟨b,5,none⟩=some (.slice a5 n5 c5):=FA.o.at_.cell 0 rfl 5 (by rw[N5.o,<-E5.o];rfl);by_cases hx:0<=x/\x<=1000000000000;rotate_left
  ·have HX:=zq hx;have dx:(if decide (0<=x)=true then decide (x<=1000000000000) else false)=false:=by
    by_cases h1:0<=x <;> by_cases h2:x<=1000000000000 <;> simp[h1,h2] <;> omega
   have hr:=zq (show (mX L (kk:Int) x).err=1 from by unfold mX;rw[if_pos (by have:=hk'.o;omega),if_neg HX.o];rfl);by_cases h1:0<=x
   ·have h2:decide (x<=1000000000000)=false:=Zf (by omega);clear hx dx
    go_wp2_with fail
    refine (fZ 1 _).mono ?_;rintro e w' ⟨rfl,rfl⟩
    go_wp2_with fail
    exact⟨rfl,dS hr.o (by decide) FA.o.at_⟩
   have h2:decide (0<=x)=false:=decide_eq_false h1;clear hx dx
   go_wp2_with fail
   refine (fZ 1 _).mono ?_;rintro e w' ⟨rfl,rfl⟩
   go_wp2_with fail
   exact⟨rfl,dS hr.o (by decide) FA.o.at_⟩
  obtain⟨hx0,hx1⟩:=hx;have HX:=zq (And.intro hx0 hx1);have dx0:decide (0<=x)=true:=decide_eq_true hx0;have dx1:decide (x<=1000000000000)=true:=decide_eq_true hx1
  go_wp2_with fail
  refine (kU 1 _).mono ?_;rintro e w' ⟨rfl,rfl⟩;obtain⟨f,hf⟩:=Zn (Jl L (kk:Int) x);obtain⟨c,hc⟩:∃ c:Pos->Int,c=fun p=>L.dG p.instr:=⟨_,rfl⟩
  have EC:=zq (show ∀ p,c p=L.dG p.instr from fun p=>by rw[hc]);have SF:=zq (show ∀ p:Pos,f p=if (L.ins p.instr).under=(kk:Int)/\(L.ins p.instr).kind=1 then some (dZ (L.ins p.instr) p.qty x) else none from fun p=>by rw[hf];rfl);have ES:=zq (show mX L (kk:Int) x=if (dD f c 0 L.au L).2=0 then ⟨(dD f c 0 L.au L).1,(kk:Int),0⟩ else .no (dD f c 0 L.au L).2 from by unfold mX;rw[if_pos (by have:=hk'.o;omega),if_pos HX.o,<-hf,<-hc]);clear hf hc dx0 dx1 hx0 hx1
  go_wp2_with fail
  go_loopw [33] (fun i wr=>∃ k:Nat,k<=n5/\i=.int .i64 k/\∃ W',W'=wr/\Hid (∃ V' M',PayAt w W R0 b ((pu, 3,#[.int .i64 (kk:Int)])::(px, 3,#[.int .i64 x])::rest) V L f c 0 k V' M' W')) (fun i _=>n5 - (intOf i).toNat)
  case atStart=>exact⟨0,Nat.zero_le _,rfl,_,rfl,zq ⟨V,L,FA.o,by rw[List.drop_zero],dW.rfl,MA.o,Or.inl rfl⟩⟩
  clear y5 x1 FA MA;obtain⟨k,hk,rfl,W',rfl,IV0⟩:=hrel;obtain⟨V',M',IV1⟩:=IV0.o;have IV:=zq IV1;clear IV0 IV1;by_cases hlt:k<n5
  ·have hlt':(k:Int)<(n5:Int):=by omega
   have n64:n5<=64:=by rw[N5.o];exact HG.o.au.len
   have LT:=zq hlt;obtain⟨p,hp⟩:∃ p,L.au[k]?=some p:=⟨_,Zg (by rw[<-N5.o];exact hlt)⟩;have HP:=zq hp;obtain⟨bp,op,cp,ep,hc⟩:=(IV.o.row FF.o).place hp;have ea:a5=some ⟨bp,op,none⟩:=by have:=E5.o;rw[ep] at this;injection this with h _ _;exact h.symm
   obtain⟨p2,p3,p4,p5,p6,p7,p8⟩:=HG.o.au.all p (List.mem_of_getElem? hp);obtain⟨pa,hpa⟩:∃ x:Nat,p.ak=x:=⟨p.ak.toNat,by omega⟩;obtain⟨pn,hpn⟩:∃ x:Nat,p.instr=x:=⟨p.instr.toNat,by omega⟩;have HPA:=zq (And.intro hpa (show 2<=pa/\pa<L.ai.length from ⟨by omega,by omega⟩));have HPN:=zq (And.intro hpn (show pn<L.af.length from by omega));have HQ:=zq (And.intro p7 p8);have q0:W'.cell? ⟨bp,op+k*3,none⟩=some (.int .i64 (pa:Int)):=by have:=hc 0 _ rfl;rw[<-hpa];simpa using this
   have q1:W'.cell? ⟨bp,op+k*3+1,none⟩=some (.int .i64 (pn:Int)):=by rw[<-hpn];exact hc 1 _ rfl
   have q2:=hc 2 _ rfl;subst ea;have SFp:=zq (SF.o p);clear hp hc ep hlt hk p2 p3 p4 p5 p6 p7 p8 hpa hpn;obtain⟨pq,hpq⟩:=Zn p.qty;have PQ:=zq hpq;rw[<-hpq] at q2;rw[HPN.o.1,<-hpq] at SFp;clear hpq;have IP:=zq (IV.o.more 50 #[.int .i64 (pa:Int),.int .i64 (pn:Int),.int .i64 pq]);have MG:=zq (IV.o.dI.pJ HG.o.pJ);have MN:=zq (show pn<M'.af.length from by rw[IV.o.dI.af];exact HPN.o.2);have EIN:=zq (IV.o.dI.ins_eq (pn:Int))
   go_upto_region 6 with (fail)
   obtain⟨W1,hW1⟩:=Zn (W'.alloc (.cells #[.int .i64 (pa:Int),.int .i64 (pn:Int),.int .i64 pq] 50));obtain⟨bq,hbq⟩:=Zn W'.heap.size;rw[<-hW1,<-hbq] at IP;rw[<-hW1,<-hbq];clear hW1 hbq q0 q1 q2;have q1:W1.cell? ⟨bq,1,none⟩=some (.int .i64 (pn:Int)):=IP.o.jl.at_.cell 1 rfl 1 rfl;have x0:W1.cell? ⟨pu,0,none⟩=some (.int .i64 (kk:Int)):=IP.o.jl.at_.cell 2 rfl 0 rfl;have COV:=zq (nU W1.drew b V' M' (IP.o.jl.drew.at_.get 0 rfl) IP.o.jl.drew.own.led pn MN.o (kk:Int));have PD:=zq (IP.o.QO ((Mod.refl (fun _=>False) W1).drew).aU);obtain⟨WD,hWD⟩:=Zn W1.drew;rw[<-hWD] at PD COV;obtain⟨ov,hov⟩:=Zn (M'.over (kk:Int) pn);rw[<-hov] at COV;have OV:=zq (show ov=true↔(L.ins pn).under=(kk:Int) from by rw[hov];unfold aH.over;rw[EIN.o];simp);obtain⟨b3,o3,c3,e3,h3⟩:=PD.o.jl.own.led.af.place (aH.jE MN.o);obtain⟨n3,hn3⟩:=Zn M'.af.length;have ML:=zq (show pn<n3 from by rw[hn3];exact MN.o);rw[<-hn3] at e3;obtain⟨kd,hkd⟩:=Zn ((L.ins pn).kind);have KD:=zq hkd;have y3:WD.cell? ⟨b,3,none⟩=some (.slice (some ⟨b3,o3,none⟩) n3 c3):=by rw[<-e3];exact PD.o.jl.at_.cell 0 rfl 3 rfl
   have r0:WD.cell? ⟨b3,o3+pn*7,none⟩=some (.int .i64 kd):=by have:=h3 0 _ rfl;rw[hkd,<-EIN.o];simpa using this
   have q1':WD.cell? ⟨bq,1,none⟩=some (.int .i64 (pn:Int)):=PD.o.jl.at_.cell 1 rfl 1 rfl;have k0:(0:Int)<=(pn:Int):=by omega
   have k1:(pn:Int)<(n3:Int):=by have:=ML.o;omega
   clear hov h3 hn3 e3 hkd;refine aI.wz [4] [] (.step 0 (.step 1 (.step 2 (.step 3 (.step 4 (.step 5 (.step 6 (.step 7 (.step 8 (.step 9 (.step 10 (.step 11 (.step 12 (.step 13 (.step 14 (.step 15 (.step 16 (.step 17 .leaf)))))))))))))))))) (by kernel_rfl) (by kernel_rfl) ?_;refine aI.aC [0,1,2,3] (by kernel_rfl) ?_
   simp only[ay,nth]
   repeat (go_big_quiet_step (fail))
   refine wpQuiet_nil ?_;rw[<-hWD];clear hWD q1 x0;refine aI.dm (by kernel_rfl) rfl (by kernel_rfl) (fun K hK=>?_)
   simp only[ay,nth]
   refine aA ?_;go_simp;refine COV.o.mono ?_;rintro e w3 ⟨rfl,rfl⟩;go_simp;refine hK _ _ ?_;clear hK COV;by_cases hin:(L.ins pn).under=(kk:Int)/\(L.ins pn).kind=1
   ·obtain rfl:ov=true:=OV.o.2 hin.1;have kq:(kd==(1:Int))=true:=by rw[KD.o,hin.2];rfl
    have SP:=zq (show f p=some (dZ (L.ins pn) pq x) from by rw[SFp.o,if_pos hin]);clear SFp hin OV;refine aI.aC [5,6,7,8,9,10,11,12,13,14,15,16,17] (by kernel_rfl) ?_
    simp only[ay,nth]
    repeat (go_big_quiet_step (fail))
    refine wpQuiet_nil ?_;refine aI.bH ?_;clear y3 r0 q1' k0 k1 kq;obtain⟨y,er,hy⟩:∃ y er,dZ (L.ins pn) pq x=(y,er):=⟨_,_,rfl⟩;rw[hy] at SP;obtain⟨cu,hcu⟩:∃ cu:Nat,L.dG pn=cu/\cu<L.aQ.length:=⟨(L.dG pn).toNat,by have:=HG.o.nK (n:=pn) (by omega) (by have:=HPN.o.2;omega);omega,by have:=HG.o.nK (n:=pn) (by omega) (by have:=HPN.o.2;omega);omega⟩;have HCU:=zq hcu;have CCU:=zq (fun W2 (F:dB w R0 ((b, 57,V'.cells M')::(bq, 50,#[.int .i64 (pa:Int),.int .i64 (pn:Int),.int .i64 pq])::(pu, 3,#[.int .i64 (kk:Int)])::(px, 3,#[.int .i64 x])::rest) V' M' W2)=>Ce W2 b V' M' (F.at_.get 0 rfl) F.own.led MG.o pn MN.o);rw[IV.o.dI.dG,hcu.1] at CCU;have CWO:=zq (fun W2 (F:dB w R0 ((b, 57,V'.cells M')::(bq, 50,#[.int .i64 (pa:Int),.int .i64 (pn:Int),.int .i64 pq])::(pu, 3,#[.int .i64 (kk:Int)])::(px, 3,#[.int .i64 x])::rest) V' M' W2)=>xH W2 b V' M' (F.at_.get 0 rfl) F.own.led MG.o pn MN.o pq x (wX (by have:=HQ.o;have:=PQ.o;omega) (by have:=HQ.o;have:=PQ.o;omega)) ⟨by have:=HX.o;omega,by have:=HX.o;omega⟩);rw[EIN.o,hy] at CWO;have CPA:=zq (fun W2 (F:dB w R0 ((b, 57,V'.cells M')::(bq, 50,#[.int .i64 (pa:Int),.int .i64 (pn:Int),.int .i64 pq])::(pu, 3,#[.int .i64 (kk:Int)])::(px, 3,#[.int .i64 x])::rest) V' M' W2) (hx:I64 y)=>zn w W2 R0 b _ V' M' F MG.o cu 0 pa (by rw[IV.o.dI.aQ];exact HCU.o.2) (by rw[IV.o.dI.len];have:=AC.o;omega) (by rw[IV.o.dI.len];exact HPA.o.2.2) y hx)
    simp only[show ((0:Nat):Int)=0 from rfl] at CPA
    have XF:=zq (show er=0->I64 y from fun h=>by subst h;exact KH hy);clear hcu hy
    go_upto_region 7 with (fail)
    have PD:=zq (PD.o.QO ((Mod.refl (fun _=>False) WD).drew).aU);obtain⟨WE,hWE⟩:=Zn WD.drew;have CL:=zq (show ∀ W2,dB w R0 ((b, 57,V'.cells M')::(bq, 50,#[.int .i64 (pa:Int),.int .i64 (pn:Int),.int .i64 pq])::(pu, 3,#[.int .i64 (kk:Int)])::(px, 3,#[.int .i64 x])::rest) V' M' W2->(fun W2:World=>W2.cell? ⟨bq,0,none⟩=some (.int .i64 (pa:Int))/\W2.cell? ⟨bq,1,none⟩=some (.int .i64 (pn:Int))/\W2.cell? ⟨bq,2,none⟩=some (.int .i64 pq)/\W2.cell? ⟨px,0,none⟩=some (.int .i64 x)) W2 from fun W2 F=>⟨F.at_.cell 1 rfl 0 rfl,F.at_.cell 1 rfl 1 rfl,F.at_.cell 1 rfl 2 rfl,F.at_.cell 3 rfl 0 rfl⟩);rw[<-hWE] at PD;have j0:∀ z:dh (fun W2:World=>W2.cell? ⟨bq,0,none⟩=some (.int .i64 (pa:Int))/\W2.cell? ⟨bq,1,none⟩=some (.int .i64 (pn:Int))/\W2.cell? ⟨bq,2,none⟩=some (.int .i64 pq)/\W2.cell? ⟨px,0,none⟩=some (.int .i64 x)),z.w.cell? ⟨bq,0,none⟩=some (.int .i64 (pa:Int)):=fun z=>z.ok.1
    have j1:∀ z:dh (fun W2:World=>W2.cell? ⟨bq,0,none⟩=some (.int .i64 (pa:Int))/\W2.cell? ⟨bq,1,none⟩=some (.int .i64 (pn:Int))/\W2.cell? ⟨bq,2,none⟩=some (.int .i64 pq)/\W2.cell? ⟨px,0,none⟩=some (.int .i64 x)),z.w.cell? ⟨bq,1,none⟩=some (.int .i64 (pn:Int)):=fun z=>z.ok.2.1
    have j2:∀ z:dh (fun W2:World=>W2.cell? ⟨bq,0,none⟩=some (.int .i64 (pa:Int))/\W2.cell? ⟨bq,1,none⟩=some (.int .i64 (pn:Int))/\W2.cell? ⟨bq,2,none⟩=some (.int .i64 pq)/\W2.cell? ⟨px,0,none⟩=some (.int .i64 x)),z.w.cell? ⟨bq,2,none⟩=some (.int .i64 pq):=fun z=>z.ok.2.2.1
    have j6:∀ z:dh (fun W2:World=>W2.cell? ⟨bq,0,none⟩=some (.int .i64 (pa:Int))/\W2.cell? ⟨bq,1,none⟩=some (.int .i64 (pn:Int))/\W2.cell? ⟨bq,2,none⟩=some (.int .i64 pq)/\W2.cell? ⟨px,0,none⟩=some (.int .i64 x)),z.w.cell? ⟨px,0,none⟩=some (.int .i64 x):=fun z=>z.ok.2.2.2
    have j9:WE.cell? ⟨bq,1,none⟩=some (.int .i64 (pn:Int)):=(CL.o _ PD.o.jl).2.1
    haveI ne:Nonempty (dh (fun W2:World=>W2.cell? ⟨bq,0,none⟩=some (.int .i64 (pa:Int))/\W2.cell? ⟨bq,1,none⟩=some (.int .i64 (pn:Int))/\W2.cell? ⟨bq,2,none⟩=some (.int .i64 pq)/\W2.cell? ⟨px,0,none⟩=some (.int .i64 x))):=⟨⟨WE,CL.o _ PD.o.jl⟩⟩
    refine aI.aX (C:=fun w'=>∃ z:dh (fun W2:World=>W2.cell? ⟨bq,0,none⟩=some (.int .i64 (pa:Int))/\W2.cell? ⟨bq,1,none⟩=some (.int .i64 (pn:Int))/\W2.cell? ⟨bq,2,none⟩=some (.int .i64 pq)/\W2.cell? ⟨px,0,none⟩=some (.int .i64 x)),w'=z.w) [4,11,14] [0,5,6,7,8,9,10,12,13] (.step 0 (.step 1 (.step 2 (.step 3 (.step 5 (.step 6 (.step 7 (.step 8 (.step 9 (.step 10 (.step 12 (.step 13 (.step 4 (.step 11 (.step 14 .leaf))))))))))))))) (fun ch d w'=>d=[]/\jO (mX L (kk:Int) x) w R0 b rest (.panicked ch) w') (by kernel_rfl) (fun _ _ _ h=>⟨h.1,h.2⟩) (by kernel_rfl) ⟨⟨WD.drew,by rw[<-hWE];exact CL.o _ PD.o.jl⟩,rfl⟩ ?_;rw[<-hWE];clear hWE;refine aI.bM [0] (by kernel_rfl) ?_
    simp only[ay,nth]
    repeat (go_big_quiet_step (fail))
    refine wpQuiet_nil ?_;refine aI.aC [1,2,3] (by kernel_rfl) ?_
    simp only[ay,nth]
    repeat (go_big_quiet_step (fail))
    refine wpQuiet_nil ?_;refine aI.bM [5,6,7,8,9,10,12,13] (by kernel_rfl) ?_
    simp only[ay,nth]
    repeat (go_big_quiet_step (fail))
    refine wpQuiet_nil ?_;clear j0 j1 j2 j6 j9;refine aI.aK (by kernel_rfl) rfl (fun K hK=>?_)
    simp only[ay,nth]
    refine aA ?_;go_simp;refine (CCU.o _ PD.o.jl).mono ?_;rintro e w3 ⟨rfl,hb⟩;have P3:=zq (PD.o.QO hb);clear hb;go_simp;refine hK _ _ (fun _=>⟨⟨_,CL.o _ P3.o.jl⟩,rfl⟩) ?_;clear hK;refine aI.aK (by kernel_rfl) rfl (fun K hK=>?_)
    simp only[ay,nth]
    refine aA ?_;go_simp;refine (CWO.o _ P3.o.jl).mono ?_;rintro e w4 ⟨ho,hb⟩;have P4:=zq (P3.o.QO hb);clear hb;rcases ho with ⟨hz,rfl⟩|⟨hz,rfl⟩;rotate_left
    ·have GO:=zq (show dD f c 0 L.au L=(aH.none,er) from by rw[<-P4.o.go,drop_at HP.o,lN SP.o hz]);exact⟨rfl,dS (by rw[ES.o,GO.o,if_neg hz];rfl) hz P4.o.jl.at_⟩
    try simp only at hz
    have XI:=zq (XF.o hz);have HZ:=zq hz;clear hz;go_simp;refine hK _ _ (fun _=>⟨⟨_,CL.o _ P4.o.jl⟩,rfl⟩) ?_;clear hK;refine aI.dm (by kernel_rfl) rfl (by kernel_rfl) (fun K hK=>?_)
    simp only[ay,nth]
    refine aA ?_;go_simp;refine (CPA.o _ P4.o.jl XI.o).mono ?_;rintro e w5 ⟨hmo,ho⟩;have M5:=zq hmo;clear hmo;have EP:=zq (show fP M' (cu:Int) y 0 (pa:Int)=fP M' (c p) (y,er).1 0 p.ak from by rw[EC.o,HPN.o.1,HCU.o.1,HPA.o.1]);rcases ho with ⟨hz,rfl,V5,F5,O5⟩|⟨hz,rfl,F5⟩;rotate_left
    ·have GO:=zq (show dD f c 0 L.au L=(aH.none,(fP M' (cu:Int) y 0 (pa:Int)).2) from by rw[<-P4.o.go,drop_at HP.o,rP SP.o HZ.o (by rw[<-EP.o];exact hz),<-EP.o]);exact⟨rfl,dS (by rw[ES.o,GO.o,if_neg hz];rfl) hz F5.at_⟩
    have P5:=zq (P4.o.next HP.o SP.o HZ.o (by rw[<-EP.o];exact hz) ⟨by decide,AC.o⟩ (by rw[HPA.o.1];have:=HPA.o.2;omega) (by rw[<-EP.o];exact F5) (by rw[<-EP.o];exact O5) (Below.refl _ _) M5.o);clear F5 O5 hz;go_simp;refine hK _ _ ?_;clear hK;refine aI.bH ?_
    go_wp2_with fail
    go_roundw
    case rel=>exact⟨k+1,by have:=LT.o;omega,by go_num,_,rfl,zq ⟨_,_,P5.o.less⟩⟩
    case measure=>have:=LT.o;simp[intOf];omega
   have SP:=zq (show f p=none from by rw[SFp.o,if_neg hin]);have NX:=zq ((PD.o.skip HP.o SP.o (Below.refl _ _)).less);have KQ:=zq (show ov=true->(kd==(1:Int))=false from fun h=>by
    have:=OV.o.1 h;have h2:¬ kd=1:=fun e=>hin ⟨this,by rw[<-KD.o];exact e⟩
    simp[h2])
   clear SFp hin OV
   cases hov:ov with
   | true =>
     subst hov;have kq:=KQ.o rfl;refine aI.aC [5,6,7,8,9,10,11,12,13,14,15,16,17] (by kernel_rfl) ?_
     simp only[ay,nth]
     repeat (go_big_quiet_step (fail))
     refine wpQuiet_nil ?_;refine aI.bH ?_;clear y3 r0 q1'
     go_wp2_with fail
     go_roundw
     case rel=>exact⟨k+1,by have:=LT.o;omega,by go_num,_,rfl,zq ⟨V',M',NX.o⟩⟩
     case measure=>have:=LT.o;simp[intOf];omega
   | false =>
     subst hov;refine aI.aC [5,6,7,8,9,10,11,12,13,14,15,16,17] (by kernel_rfl) ?_
     simp only[ay,nth]
     repeat (go_big_quiet_step (fail))
     refine wpQuiet_nil ?_;refine aI.bH ?_;clear y3 r0 q1'
     go_wp2_with fail
     go_roundw
     case rel=>exact⟨k+1,by have:=LT.o;omega,by go_num,_,rfl,zq ⟨V',M',NX.o⟩⟩
     case measure=>have:=LT.o;simp[intOf];omega
  have hlt':¬ (k:Int)<(n5:Int):=by omega
  have EN:=zq (IV.o.ended (by rw[<-N5.o];omega));have x0:W'.cell? ⟨pu,0,none⟩=some (.int .i64 (kk:Int)):=IV.o.jl.at_.cell 1 rfl 0 rfl;have FE:=zq IV.o.jl;clear hlt hk IV
  go_wp2_with fail
  go_ret;refine Iq (V:=V') (L:=M') ?_ FE.o;rw[ES.o,EN.o,if_pos rfl]
 have hr:=zq (show (mX L u x).err=31 from by unfold mX;rw[if_neg (by omega)];rfl);have d0:decide (0<=u)=false:=decide_eq_false h0
 go_enter Tryz.func44,Tryz.ntmps44
 go_wp2_with fail
 refine aI.aX (C:=fun w'=>True) [12] [] (.step 0 (.step 1 (.step 2 (.step 3 (.step 4 (.step 5 (.step 6 (.step 7 (.step 8 (.step 9 (.step 10 (.step 11 (.step 12 .leaf))))))))))))) (fun ch d w'=>d=[]/\jO (mX L u x) w R0 b rest (.panicked ch) w') (by kernel_rfl) (fun _ _ _ h=>⟨h.1,h.2⟩) (by kernel_rfl) trivial ?_;refine aI.aC [0,1,2,3,4,5,6,7,8,9,10,11] (by kernel_rfl) ?_
 simp only[ay,nth]
 repeat (go_big_quiet_step (fail))
 refine wpQuiet_nil ?_;refine aI.dm (by kernel_rfl) rfl (by kernel_rfl) (fun K hK=>?_)
 simp only[ay,nth]
 refine aA ?_;go_simp;refine (fZ 31 _).mono ?_;rintro e w' ⟨rfl,rfl⟩;exact⟨rfl,dS hr.o (by decide) FF.o.drew.at_⟩
end Go.Proofs.YtcepekniflaoaaaGreatDoor
