/- Joined: LocR, RGood, RgTo. -/
import Derived.Test.YtcepekniflaoaaaGreatDoorGg
import Derived.Test.YtcepekniflaoaaaGreatDoorGd
set_option linter.unusedVariables false
set_option linter.unusedSimpArgs false
set_option maxRecDepth 100000
set_option maxHeartbeats 8000000
namespace Go.Proofs.YtcepekniflaoaaaGreatDoor
open Go.RowKit Go.Bw Go.Maps Go.Shelf
structure Ej (av:List Int) (l:List Pos):Prop where
 aG:∀ q∈av,rY q=true
 all:∀ x∈l,rY x.qty=true
 rise:iK Pos.Lt l
theorem zD (q:Int) (b:Bool) (h:rY q=b) (W:World) (n:Nat):Calls Tryz.prog 158 #[.int .i64 q] (W.drewN n) fun e w''=>e=.returned (.bool b)/\∃ m,w''=W.drewN m :=
 (x9 q (W.drewN n)).mono fun e w' hh=>⟨by rw[<-h];exact hh.1,n,hh.2.symm⟩
open Classical in
theorem Ko (w:World) (va v:Value) (av:List Int) (l:List Pos) (hA:RowOf w 1 dw va av) (hR:RowOf w 3 Pos.cells v l) :
 Calls Tryz.prog 115 #[va,v] w fun e w'=>e=.returned (.bool (decide (Ej av l)))/\Below w.heap.size w w':=by
 obtain⟨aa,ca,rfl⟩:=hA.form;obtain⟨a,c,rfl⟩:=hR.form;have hl:l.length<=9223372036854775807:=by have:=hR.caps;unfold maxLen at this;omega
 have hl2:av.length<=9223372036854775807:=by have:=hA.caps;unfold maxLen at this;omega
 obtain⟨R,hRr⟩:=Zn (decide (Ej av l));rw[<-hRr];have EQ:=zq hRr;have HR:=zq hR;have HA:=zq hA;clear hR hRr hA
 go_enter Tryz.func115,Tryz.ntmps115
 go_wp2_with fail
 go_loop [11] (fun i=>∃ k:Nat,k<=av.length/\i=.int .i64 k/\Hid (∀ (j:Nat) x,j<k->av[j]?=some x->rY x=true)) (fun i=>av.length - (intOf i).toNat)
 case atStart=>exact⟨0,Nat.zero_le _,rfl,zq (fun j x hj=>by omega)⟩
 obtain⟨k,hk,rfl,INV⟩:=hrel;by_cases hlt:k<av.length
 ·obtain⟨x,hx⟩:∃ x,av[k]?=some x:=⟨_,List.getElem?_eq_getElem hlt⟩;obtain⟨b,o,rfl,hbl,hc⟩:=HA.o.at_ hx;have c0:=hc 0 (.int .i64 x) rfl;rw[Nat.mul_one,Nat.add_zero] at c0;have hlt':(k:Int)<(av.length:Int):=by omega
  have HX:=zq hx;have LT:=zq hlt;clear hx hc
  cases hq:rY x with
  | false =>
    have FL:=zq (EQ.o.trans (Zf (fun h=>by have:=h.aG x (List.mem_of_getElem? HX.o);rw[hq] at this;cases this)));have Q:=zq (x9 x);rw[hq] at Q;clear hq
    go_wp2_with (go_at_call 158;refine (Q.o _).mono ?_;rintro e w' ⟨rfl,rfl⟩)
    go_ret;exact⟨aj FL.o.symm,Below.refl _ _⟩
  | true =>
    have Q:=zq (x9 x);rw[hq] at Q;have HQ:=zq hq;clear hq
    go_wp2_with (go_at_call 158;refine (Q.o _).mono ?_;rintro e w' ⟨rfl,rfl⟩)
    go_round
    case rel=>exact⟨k+1,by have:=LT.o;omega,by go_num,zq (fun j z hj hz=>by
     by_cases e:j=k
     ·subst e;have h1:=HX.o;rw[hz] at h1;cases h1;exact HQ.o
     exact INV.o j z (by omega) hz)⟩
    case measure=>have:=LT.o;simp[intOf];omega
 have hlt':¬ (k:Int)<(av.length:Int):=by omega
 have AV:=zq (show ∀ q∈av,rY q=true from fun x hx=>by
  obtain⟨j,hj,e⟩:=List.mem_iff_getElem.1 hx;exact INV.o j x (by omega) (by rw[<-e];exact List.getElem?_eq_getElem hj))
 have EQ:=EQ;clear hk hlt INV
 go_wp2_with fail
 obtain⟨wo,hwo⟩:=Zn w
 go_loopw [21] (fun i wr=>∃ k:Nat,k<=l.length/\i=.int .i64 k/\Hid ((∀ (j:Nat) x,j<k->l[j]?=some x->rY x.qty=true)/\(∀ (j:Nat) x y,j+1<k->l[j]?=some x->l[j+1]?=some y->x.Lt y))/\Below w.heap.size w wr) (fun i _=>l.length - (intOf i).toNat)
 case atStart=>exact⟨0,Nat.zero_le _,rfl,zq ⟨fun j x hj=>by omega,fun j x y hj=>by omega⟩,Below.refl _ _⟩
 obtain⟨k,hk,rfl,INV,hb⟩:=hrel;have BW:=zq hb;have ROW:=zq (HR.o.below hb);clear hb;by_cases hlt:k<l.length
 ·obtain⟨x,hx⟩:∃ x,l[k]?=some x:=⟨_,List.getElem?_eq_getElem hlt⟩;obtain⟨b,o,rfl,hbl,hc⟩:=ROW.o.at_ hx;have c0:=hc 0 (.int .i64 x.ak) rfl;have c1:=hc 1 (.int .i64 x.instr) rfl;have c2:=hc 2 (.int .i64 x.qty) rfl;rw[Nat.add_zero] at c0;have hlt':(k:Int)<(l.length:Int):=by omega
  have HX:=zq hx;have LT:=zq hlt;have B2:=zq (BW.o.alloc BW.o.size (.cells #[.int .i64 x.ak,.int .i64 x.instr,.int .i64 x.qty] 72))
  cases hq:rY x.qty with
  | false =>
    have FL:=zq (EQ.o.trans (Zf (fun h=>by have:=h.all x (List.mem_of_getElem? HX.o);rw[hq] at this;cases this)));have Q:=zq (zD x.qty false hq);clear hx hc hq
    cases k with
    | zero =>
      simp only[Nat.zero_mul,Nat.add_zero] at c0 c1 c2
      go_wp2_with fail
      go_quiet (exact Q.o _ _)
      go_wp2_with fail
      go_ret;exact⟨aj FL.o.symm,below_drewN B2.o _⟩
    | succ k =>
      go_wp2_with fail
      go_quiet (exact Q.o _ _)
      go_wp2_with fail
      go_ret;exact⟨aj FL.o.symm,below_drewN B2.o _⟩
  | true =>
  have Q:=zq (zD x.qty true hq);have HQ:=zq hq;clear hq
  cases k with
  | zero =>
    clear hx hc
    simp only[Nat.zero_mul,Nat.add_zero] at c0 c1 c2
    go_wp2_with fail
    go_quiet (exact Q.o _ _)
    go_wp2_with fail
    go_roundw
    case rel=>exact⟨1,by have:=LT.o;omega,by go_num,zq ⟨fun j z hj hz=>by
     obtain rfl:j=0:=by omega
     have h1:=HX.o;rw[hz] at h1;cases h1;exact HQ.o,fun j y z hj=>by omega⟩,below_drewN B2.o _⟩
    case measure=>have:=LT.o;simp[intOf];omega
  | succ k =>
    obtain⟨y,hy⟩:∃ y,l[k]?=some y:=⟨_,Zg (by omega)⟩;obtain⟨b',o',e',hbl',hd⟩:=ROW.o.at_ hy
    cases e'
    have d0:=hd 0 (.int .i64 y.ak) rfl;have d1:=hd 1 (.int .i64 y.instr) rfl;rw[Nat.add_zero] at d0;have HY:=zq hy;have j1:(0:Int)<=(k:Int):=by omega
    have j2:(k:Int)<(l.length:Int):=by omega
    have w1:IntKind.i64.wrap (((k+1:Nat):Int) - 1)=(k:Int):=by rw[show ((k+1:Nat):Int) - 1=(k:Int) from by omega];exact IntWalk.i64_in _ (by omega)
    have g0:decide ((0:Int)<((k+1:Nat):Int))=true:=decide_eq_true (by omega);clear hx hc hy hd;have ch:(x.ak<y.ak)\/(¬ x.ak<y.ak/\y.ak=x.ak/\x.instr<=y.instr)\/(¬ x.ak<y.ak/\y.ak=x.ak/\¬ x.instr<=y.instr)\/(¬ x.ak<y.ak/\¬ y.ak=x.ak):=by omega
    have DEC:=zq (show ¬ y.Lt x->R=false from fun hn=>EQ.o.trans (Zf (fun h=>hn (h.rise k y x HY.o HX.o))));rcases ch with h1|⟨h1,h2,h3⟩|⟨h1,h2,h3⟩|⟨h1,h2⟩
    ·have FL:=zq (DEC.o (by unfold Pos.Lt;omega));have g1:decide (x.ak<y.ak)=true:=decide_eq_true h1
     go_wp2_with fail
     go_quiet (exact Q.o _ _)
     go_wp2_with fail
     go_ret;exact⟨aj FL.o.symm,below_drewN B2.o _⟩
    ·have FL:=zq (DEC.o (by unfold Pos.Lt;omega));have g1:decide (x.ak<y.ak)=false:=decide_eq_false h1;have g2:(y.ak==x.ak)=true:=by simp[h2]
     clear h2
     go_wp2_with fail
     go_quiet (exact Q.o _ _)
     go_wp2_with fail
     go_ret;exact⟨aj FL.o.symm,below_drewN B2.o _⟩
    all_goals
     have LTT:=zq (show y.Lt x from by unfold Pos.Lt;omega);have g1:decide (x.ak<y.ak)=false:=decide_eq_false h1
     first
     | (have g2:(y.ak==x.ak)=true:=by simp[h2])
     | (have g2:(y.ak==x.ak)=false:=by simp[h2])
     clear h2
     go_wp2_with fail
     go_quiet (exact Q.o _ _)
     go_wp2_with fail
     go_roundw
     case rel=>exact⟨k+1+1,by have:=LT.o;omega,by go_num,zq ⟨fun j z hj hz=>by
      by_cases e:j=k+1
      ·subst e;have h1:=HX.o;rw[hz] at h1;cases h1;exact HQ.o
      ·exact INV.o.1 j z (by omega) hz,fun j z z' hj hz hz'=>by
      by_cases e:j=k
      ·subst e;have h1:=HY.o;rw[hz] at h1;cases h1;have h2:=HX.o;rw[hz'] at h2;cases h2;exact LTT.o
      exact INV.o.2 j z z' (by omega) hz hz'⟩,below_drewN B2.o _⟩
     case measure=>have:=LT.o;simp[intOf];omega
 have hlt':¬ (k:Int)<(l.length:Int):=by omega
 have FL:=zq (EQ.o.trans (decide_eq_true ⟨AV.o,fun x hx=>by
  obtain⟨j,hj,e⟩:=List.mem_iff_getElem.1 hx;exact INV.o.1 j x (by omega) (by rw[<-e];exact List.getElem?_eq_getElem hj),fun j x y hx hy=>INV.o.2 j x y (by have:=(List.getElem?_eq_some_iff.1 hy).1;omega) hx hy⟩))
 go_wp2_with fail
 go_ret;exact⟨aj FL.o.symm,BW.o⟩
open Classical in
theorem DF (w:World) (va v:Value) (av:List Int) (l:List Pos) (A I:Nat) (hA:RowOf w 1 dw va av) (hR:RowOf w 3 Pos.cells v l) :
 Calls Tryz.prog 80 #[va,v,.int .i64 (A:Nat),.int .i64 (I:Nat)] w fun e w'=>e=.returned (.bool (decide (pY av l A I)))/\Below w.heap.size w w':=by
 obtain⟨aa,ca,rfl⟩:=hA.form;obtain⟨a,c,rfl⟩:=hR.form;obtain⟨R,hRr⟩:=Zn (decide (pY av l A I));rw[<-hRr];have EQ:=zq hRr;have HR:=zq hR;have HA:=zq hA;clear hR hRr hA;by_cases h1:av.length=I
 case neg =>
  have FL:=zq (EQ.o.trans (Zf (fun h=>h1 h.len)));have hb:((av.length:Int) != (I:Int))=true:=by rw[bne_iff_ne];omega
  clear h1
  go_enter Tryz.func80,Tryz.ntmps80
  go_wp2_with fail
  go_ret;exact⟨aj FL.o.symm,Below.refl _ _⟩
 have hb:((av.length:Int) != (I:Int))=false:=by rw[h1];simp
 have H1:=zq h1;clear h1;by_cases hlen:l.length<=32
 case neg =>
  have FL:=zq (EQ.o.trans (Zf (fun h=>hlen h.Ae)));have hlen':(32:Int)<(l.length:Int):=by omega
  clear hlen
  go_enter Tryz.func80,Tryz.ntmps80
  go_wp2_with fail
  go_ret;exact⟨aj FL.o.symm,Below.refl _ _⟩
 have hlen':¬ (32:Int)<(l.length:Int):=by omega
 have HL:=zq hlen;clear hlen
 go_enter Tryz.func80,Tryz.ntmps80
 go_wp2_with fail
 refine (Ko w _ _ av l HA.o HR.o).mono ?_;rintro e w3 ⟨rfl,hb3⟩;have B3:=zq hb3;clear hb3;by_cases hti:Ej av l
 case neg =>
  have FL:=zq (EQ.o.trans (Zf (fun h=>hti ⟨fun q hq=>decide_eq_true (h.aG q hq),fun x hx=>by have:=h.all x hx;exact decide_eq_true (by omega),h.rise⟩)));rw[decide_eq_false hti];clear hti
  go_wp2_with fail
  go_ret;exact⟨aj FL.o.symm,B3.o⟩
 rw[decide_eq_true hti];have HT:=zq hti;clear hti
 go_wp2_with fail
 go_loopw [28] (fun i wr=>∃ k:Nat,k<=l.length/\i=.int .i64 k/\Hid (∀ (j:Nat) x,j<k->l[j]?=some x->oz x A I)/\Below w.heap.size w wr) (fun i _=>l.length - (intOf i).toNat)
 case atStart=>exact⟨0,Nat.zero_le _,rfl,zq (fun j x hj=>by omega),B3.o⟩
 obtain⟨k,hk,rfl,INV,hb'⟩:=hrel;have BW:=zq hb';have ROW:=zq (HR.o.below hb');clear hb';by_cases hlt:k<l.length
 ·obtain⟨x,hx⟩:∃ x,l[k]?=some x:=⟨_,List.getElem?_eq_getElem hlt⟩;obtain⟨b,o,rfl,hbl,hc⟩:=ROW.o.at_ hx;have c0:=hc 0 (.int .i64 x.ak) rfl;have c1:=hc 1 (.int .i64 x.instr) rfl;have c2:=hc 2 (.int .i64 x.qty) rfl;rw[Nat.add_zero] at c0;have hlt':(k:Int)<(l.length:Int):=by omega
  have HX:=zq hx;have LT:=zq hlt;have SQ:=zq (of_decide_eq_true (HT.o.all x (List.mem_of_getElem? hx)));have BX2:=zq (BW.o.alloc BW.o.size (.cells #[.int .i64 x.ak,.int .i64 x.instr,.int .i64 x.qty] 72));have DEC:=zq (show ¬ oz x A I->R=false from fun hn=>EQ.o.trans (Zf (fun h=>hn (h.all x (List.mem_of_getElem? HX.o)))));clear hx hc;by_cases h0:x.ak<2
  ·have FL:=zq (DEC.o (by unfold oz;omega))
   go_wp2_with fail
   go_ret;exact⟨aj FL.o.symm,BX2.o⟩
  by_cases h1:(A:Int)<=x.ak
  ·have FL:=zq (DEC.o (by unfold oz;omega))
   go_wp2_with fail
   go_ret;exact⟨aj FL.o.symm,BX2.o⟩
  by_cases h2:x.instr<0
  ·have FL:=zq (DEC.o (by unfold oz;omega))
   go_wp2_with fail
   go_ret;exact⟨aj FL.o.symm,BX2.o⟩
  by_cases h3:(I:Int)<=x.instr
  ·have FL:=zq (DEC.o (by unfold oz;omega))
   go_wp2_with fail
   go_ret;exact⟨aj FL.o.symm,BX2.o⟩
  by_cases h4:x.qty=0
  ·have FL:=zq (DEC.o (by unfold oz;omega));have hbq:(x.qty==0)=true:=by simp[h4]
   clear h4
   go_wp2_with fail
   go_ret;exact⟨aj FL.o.symm,BX2.o⟩
  have YES:=zq (show oz x A I from by have:=SQ.o;unfold oz;omega);have hbq:(x.qty==0)=false:=by simp[h4]
  clear h4
  go_wp2_with fail
  go_roundw
  case rel=>exact⟨k+1,by have:=LT.o;omega,by go_num,zq (fun j z hj hz=>by
   by_cases e:j=k
   ·subst e;have h1:=HX.o;rw[hz] at h1;cases h1;exact YES.o
   exact INV.o j z (by omega) hz),BX2.o⟩
  case measure=>have:=LT.o;simp[intOf];omega
 have hlt':¬ (k:Int)<(l.length:Int):=by omega
 have FL:=zq (EQ.o.trans (decide_eq_true ⟨H1.o,HL.o,fun q hq=>of_decide_eq_true (HT.o.aG q hq),fun x hx=>by
  obtain⟨j,hj,e⟩:=List.mem_iff_getElem.1 hx;exact INV.o j x (by omega) (by rw[<-e];exact List.getElem?_eq_getElem hj),HT.o.rise⟩))
 go_wp2_with fail
 go_ret;exact⟨aj FL.o.symm,BW.o⟩
open Classical in
theorem JZ (w:World) (V:aB) (L:aH) (h:bK w V L) (hL:L.ai.length<=1024) :
 Calls Tryz.prog 31 #[V.val L] w fun e w'=>e=.returned (.bool (decide L.Good))/\Below w.heap.size w w':=by
 obtain⟨a1,c1',a2,c2',a3,c3',a4,c4',a5,c5',a6,c6',a7,c7',a8,c8',asl,hV⟩:=h.forms;have PAR:=zq (fun W (hb:Below w.heap.size w W)=>tZ W V L (h.below hb) hL);have SM:=zq h.same;have CA:=zq h.aT;rw[hV] at PAR SM h CA ⊢
 simp only[aB.val,aB.cells] at PAR SM CA ⊢
 have HC:=zq (show RowOf w 2 gu.cells (.slice a1 L.aQ.length c1') L.aQ from h.aQ);have HU:=zq (show RowOf w 4 dX.cells (.slice a2 L.ah.length c2') L.ah from h.ah);have HI:=zq (show RowOf w 7 Ins.cells (.slice a3 L.af.length c3') L.af from h.af);have HA:=zq (show RowOf w 4 Acc.cells (.slice a4 asl.length c4') asl from h.ai);have HP:=zq (show RowOf w 3 Pos.cells (.slice a5 L.au.length c5') L.au from h.au);have HO:=zq (show RowOf w 5 Ord.cells (.slice a6 L.orders.length c6') L.orders from h.orders);have HV:=zq (show RowOf w 1 dw (.slice a7 L.aG.length c7') L.aG from h.aG);have HK:=zq (show RowOf w 3 Pos.cells (.slice a8 L.aJ.length c8') L.aJ from h.aJ);have HN:=zq h.names;have AL:=zq (show L.ai.length=asl.length from by have:=SM.o;rw[this,List.length_map]);have AK:=zq (show asl.length<=1024 from by have:=AL.o;omega);obtain⟨PS,hPS⟩:=Zn L.parents;rw[<-hPS] at PAR;have EPS:=zq hPS;have PSL:=zq (show PS.length=asl.length from by rw[hPS];unfold aH.parents;rw[List.length_map];exact AL.o);obtain⟨R,hRr⟩:=Zn (decide L.Good);rw[<-hRr];have EQ:=zq hRr;have BAD:=zq (show ¬ L.Good->R=false from fun hn=>hRr.trans (decide_eq_false hn));obtain⟨C,hC⟩:=Zn L.aQ.length;obtain⟨U,hU⟩:=Zn L.ah.length;obtain⟨I,hI⟩:=Zn L.af.length;obtain⟨N,hN⟩:=Zn asl.length;obtain⟨PN,hPN⟩:=Zn L.au.length;obtain⟨ON,hON⟩:=Zn L.orders.length;obtain⟨VN,hVN⟩:=Zn L.aG.length;obtain⟨KN,hKN⟩:=Zn L.aJ.length;have capC:C<=9223372036854775807:=by have:=HC.o.caps;unfold maxLen at this;omega
 have capU:U<=9223372036854775807:=by have:=HU.o.caps;unfold maxLen at this;omega
 have capI:I<=9223372036854775807:=by have:=HI.o.caps;unfold maxLen at this;omega
 have capN:N<=1024:=by have:=AK.o;omega
 rw[<-hC] at HC;rw[<-hU] at HU;rw[<-hI] at HI;rw[<-hN] at AL HA PSL;rw[<-hPN] at HP;rw[<-hON] at HO;rw[<-hVN] at HV;rw[<-hKN] at HK;rw[<-hC,<-hU,<-hI,<-hN,<-hPN,<-hON,<-hVN,<-hKN] at PAR ⊢;have LC:=zq hC;have LU:=zq hU;have LI:=zq hI;have LN:=zq hN;have LP:=zq hPN;have LO:=zq hON;obtain⟨CS,hCS⟩:∃ CS:Array Value,CS=#[.int .i64 L.day,.slice a1 C c1',.slice a2 U c2',.slice a3 I c3',.slice a4 N c4',.slice a5 PN c5',.slice a6 ON c6',.slice a7 VN c7',.slice a8 KN c8']:=⟨_,rfl⟩;have BX:=zq (show ∃ W,W=w.alloc (.cells #[.int .i64 L.day,.slice a1 C c1',.slice a2 U c2',.slice a3 I c3',.slice a4 N c4',.slice a5 PN c5',.slice a6 ON c6',.slice a7 VN c7',.slice a8 KN c8'] 31)/\Below w.heap.size w W/\aY W w.heap.size CS from
  ⟨_,rfl,Zb,by rw[hCS];exact aY.new w _ _⟩)
 have ECS:=zq hCS;clear h hL hRr hC hU hI hN hPN hON hVN hKN hCS hV hPS;by_cases g1:L.day<0
 ·have FL:=zq (BAD.o (fun h=>by have:=h.d0;omega))
  go_enter Tryz.func31,Tryz.ntmps31
  go_wp2_with fail
  go_ret;exact⟨aj FL.o.symm,Zb⟩
 by_cases g2:100000<L.day
 ·have FL:=zq (BAD.o (fun h=>by have:=h.d1;omega))
  go_enter Tryz.func31,Tryz.ntmps31
  go_wp2_with fail
  go_ret;exact⟨aj FL.o.symm,Zb⟩
 by_cases g3:(C:Int)<1
 ·have FL:=zq (BAD.o (fun h=>by have:=h.things.c0;have:=LC.o;omega))
  go_enter Tryz.func31,Tryz.ntmps31
  go_wp2_with fail
  go_ret;exact⟨aj FL.o.symm,Zb⟩
 by_cases g4:4<(C:Int)
 ·have FL:=zq (BAD.o (fun h=>by have:=h.things.c1;have:=LC.o;omega))
  go_enter Tryz.func31,Tryz.ntmps31
  go_wp2_with fail
  go_ret;exact⟨aj FL.o.symm,Zb⟩
 by_cases g5:6<(U:Int)
 ·have FL:=zq (BAD.o (fun h=>by have:=h.things.u1;have:=LU.o;omega))
  go_enter Tryz.func31,Tryz.ntmps31
  go_wp2_with fail
  go_ret;exact⟨aj FL.o.symm,Zb⟩
 by_cases g6:12<(I:Int)
 ·have FL:=zq (BAD.o (fun h=>by have:=h.things.i1;have:=LI.o;omega))
  go_enter Tryz.func31,Tryz.ntmps31
  go_wp2_with fail
  go_ret;exact⟨aj FL.o.symm,Zb⟩
 have DAY:=zq (show 0<=L.day/\L.day<=100000 from by omega);have OK1:=zq (show 1<=L.aQ.length/\L.aQ.length<=4/\L.ah.length<=6/\L.af.length<=12 from by have:=LC.o;have:=LU.o;have:=LI.o;omega)
 go_enter Tryz.func31,Tryz.ntmps31
 go_wp2_with fail
 have u6:(U:Int)<=6:=by omega
 have c4b:(C:Int)<=4:=by omega
 have i12:(I:Int)<=12:=by omega
 clear g1 g2 g3 g4 g5 g6;obtain⟨W,hW,hb,hbx⟩:=BX.o;rw[<-hW];have B0:=zq hb;have X0:=zq hbx;clear hW hb hbx BX
 go_loopw [55] (fun i wr=>∃ k:Nat,k<=C/\i=.int .i64 k/\Hid (∀ (j:Nat) x,j<k->L.aQ[j]?=some x->x.Ok j)/\Below W.heap.size W wr) (fun i _=>C - (intOf i).toNat)
 case atStart=>exact⟨0,Nat.zero_le _,rfl,zq (fun j x hj=>by omega),Below.refl _ _⟩
 obtain⟨k,hk,rfl,INV,hb⟩:=hrel;have BL:=zq hb;have BLW:=zq (B0.o.trans (hb.mono B0.o.size));have XL:=zq (X0.o.below hb);clear hb;by_cases hlt:k<C
 ·obtain⟨x,hx⟩:∃ x,L.aQ[k]?=some x:=⟨_,Zg (by have:=LC.o;omega)⟩;obtain⟨b,o,rfl,hbl,hc⟩:=(HC.o.below BLW.o).at_ hx;have c0:=hc 0 (.int .i64 x.rate) rfl;have c1:=hc 1 (.int .i64 x.dL) rfl;rw[Nat.add_zero] at c0;have hlt':(k:Int)<(C:Int):=by omega
  have HX:=zq hx;have LT:=zq hlt;have HS:=zq (List.mem_of_getElem? hx);have AX:=zq (show ∃ X,X=wr.alloc (.cells #[.int .i64 x.rate,.int .i64 x.dL] 86)/\Below wr.heap.size wr X/\aY X wr.heap.size #[.int .i64 x.rate,.int .i64 x.dL] from
   ⟨_,rfl,Zb,aY.new wr _ _⟩)
  have k0:(0:Int)<=(k:Int):=by omega
  have k3:(k:Int)<=31:=by omega
  have m1:(wr.alloc (.cells #[.int .i64 x.rate,.int .i64 x.dL] 86)).cell? ⟨w.heap.size,1,none⟩=some (.slice (some ⟨b,o,none⟩) C c1'):=((Mod.refl (fun _=>False) wr).alloc _).cell (XL.o.at_ 1 _ (by rw[ECS.o];rfl)) (fun h=>h);have m2:(wr.alloc (.cells #[.int .i64 x.rate,.int .i64 x.dL] 86)).cell? ⟨w.heap.size,2,none⟩=some (.slice a2 U c2'):=((Mod.refl (fun _=>False) wr).alloc _).cell (XL.o.at_ 2 _ (by rw[ECS.o];rfl)) (fun h=>h);clear hx hc hk hlt
  go_wp2_with fail
  obtain⟨X,hX,hbX,hbx⟩:=AX.o;rw[<-hX];have BX2:=zq hbX;have XX:=zq hbx;clear hX hbX hbx AX m1 m2;have CU:=zq (Dq x k (by have:=OK1.o;have:=LC.o;have:=LT.o;omega) X)
  cases hq:decide (x.Ok k) with
  | false =>
    have FL:=zq (BAD.o (fun h=>(of_decide_eq_false hq) (by exact h.things.aQ k x HX.o)));rw[hq] at CU;clear hq;refine CU.o.mono ?_;rintro e w' ⟨rfl,hb⟩;have B9:=zq (BLW.o.trans ((BX2.o.trans (hb.mono BX2.o.size)).mono BLW.o.size));clear hb
    go_wp2_with fail
    go_ret;exact⟨aj FL.o.symm,B9.o⟩
  | true =>
    have HQ:=zq (of_decide_eq_true hq);rw[hq] at CU;clear hq;refine CU.o.mono ?_;rintro e w' ⟨rfl,hb⟩;have B9:=zq (BL.o.trans ((BX2.o.trans (hb.mono BX2.o.size)).mono BL.o.size));clear hb
    go_wp2_with fail
    go_roundw
    case rel=>exact⟨k+1,by have:=LT.o;omega,by go_num,zq (fun j z hj hz=>by
     by_cases e:j=k
     ·subst e;have h1:=HX.o;rw[hz] at h1;cases h1;exact HQ.o
     exact INV.o j z (by omega) hz),B9.o⟩
    case measure=>have:=LT.o;simp[intOf];omega
 have hlt':¬ (k:Int)<(C:Int):=by omega
 have CUR:=zq (show ∀ (j:Nat) x,j<L.aQ.length->L.aQ[j]?=some x->x.Ok j from fun j x hj hx=>INV.o j x (by have:=LC.o;omega) hx);clear hlt hk INV;have m2:wr.cell? ⟨w.heap.size,2,none⟩=some (.slice a2 U c2'):=XL.o.at_ 2 _ (by rw[ECS.o];rfl)
 go_wp2_with fail
 clear m2 hlt';have B1:=zq BLW.o;have X1:=zq XL.o;clear BL BLW XL;obtain⟨w1,hw1⟩:=Zn wr;rw[<-hw1] at B1 X1 ⊢;clear hw1
 go_loopw [68] (fun i wr=>∃ k:Nat,k<=U/\i=.int .i64 k/\Hid ((∀ (j:Nat) x,j<k->L.ah[j]?=some x->x.Ok C)/\(∀ (n m:Nat) u v,n<k->m<n->L.ah[n]?=some u->L.ah[m]?=some v->v.name≠u.name))/\Below w1.heap.size w1 wr) (fun i _=>U - (intOf i).toNat)
 case atStart=>exact⟨0,Nat.zero_le _,rfl,zq ⟨fun j x hj=>by omega,fun n m u v hn=>by omega⟩,Below.refl _ _⟩
 obtain⟨k,hk,rfl,INV,hb⟩:=hrel;have BL:=zq hb;have BLW:=zq (B1.o.trans (hb.mono B1.o.size));have XL:=zq (X1.o.below hb);clear hb;by_cases hlt:k<U
 ·obtain⟨x,hx⟩:∃ x,L.ah[k]?=some x:=⟨_,Zg (by have:=LU.o;omega)⟩;obtain⟨b,o,rfl,hbl,hc⟩:=(HU.o.below BLW.o).at_ hx;have c0:=hc 0 (.string x.name) rfl;have c1:=hc 1 (.int .i64 x.cur) rfl;have c2:=hc 2 (.int .i64 x.price) rfl;have c3:=hc 3 (.int .i64 x.cZ) rfl;rw[Nat.add_zero] at c0;have hlt':(k:Int)<(U:Int):=by omega
  have HX:=zq hx;have LT:=zq hlt;have HS:=zq (List.mem_of_getElem? hx);have AX:=zq (show ∃ X,X=wr.alloc (.cells #[.string x.name,.int .i64 x.cur,.int .i64 x.price,.int .i64 x.cZ] 48)/\Below wr.heap.size wr X/\aY X wr.heap.size #[.string x.name,.int .i64 x.cur,.int .i64 x.price,.int .i64 x.cZ] from
   ⟨_,rfl,Zb,aY.new wr _ _⟩)
  have k0:(0:Int)<=(k:Int):=by omega
  have k3:(k:Int)<=31:=by omega
  have m1:(wr.alloc (.cells #[.string x.name,.int .i64 x.cur,.int .i64 x.price,.int .i64 x.cZ] 48)).cell? ⟨w.heap.size,1,none⟩=some (.slice a1 C c1'):=((Mod.refl (fun _=>False) wr).alloc _).cell (XL.o.at_ 1 _ (by rw[ECS.o];rfl)) (fun h=>h);have m2:(wr.alloc (.cells #[.string x.name,.int .i64 x.cur,.int .i64 x.price,.int .i64 x.cZ] 48)).cell? ⟨w.heap.size,2,none⟩=some (.slice (some ⟨b,o,none⟩) U c2'):=((Mod.refl (fun _=>False) wr).alloc _).cell (XL.o.at_ 2 _ (by rw[ECS.o];rfl)) (fun h=>h);clear hx hc hk hlt
  go_wp2_with fail
  obtain⟨X,hX,hbX,hbx⟩:=AX.o;rw[<-hX];have BX2:=zq hbX;have XX:=zq hbx;clear hX hbX hbx AX m1 m2;have CU:=zq (DL x C (by have:=OK1.o;have:=LC.o;omega) (HN.o x HS.o) X)
  cases hq:decide (x.Ok C) with
  | false =>
    have FL:=zq (BAD.o (fun h=>(of_decide_eq_false hq) (by have:=h.things.ah k x HX.o;rw[LC.o];exact this)));rw[hq] at CU;clear hq;refine CU.o.mono ?_;rintro e w' ⟨rfl,hb⟩;have B9:=zq (BLW.o.trans ((BX2.o.trans (hb.mono BX2.o.size)).mono BLW.o.size));clear hb
    go_wp2_with fail
    go_ret;exact⟨aj FL.o.symm,B9.o⟩
  | true =>
    have HQ:=zq (of_decide_eq_true hq);rw[hq] at CU;clear hq;refine CU.o.mono ?_;rintro e w' ⟨rfl,hb⟩;have B9:=zq (BL.o.trans ((BX2.o.trans (hb.mono BX2.o.size)).mono BL.o.size));have XW':=zq (XX.o.below hb);have XLW:=zq ((XL.o.below BX2.o).below hb);have B8:=zq (BLW.o.trans ((BX2.o.trans (hb.mono BX2.o.size)).mono BLW.o.size));clear hb
    go_wp2_with fail
    obtain⟨w5,hw5⟩:=Zn w';rw[<-hw5] at B9 XW' XLW B8 ⊢;clear hw5;obtain⟨k9,hk9⟩:=Zn k;obtain⟨H9,hH9⟩:=Zn wr.heap.size;rw[<-hH9] at XW' ⊢;rw[<-hk9] at HX LT INV k0 k3 ⊢;have K9:=zq hk9;clear hk9 hH9 BX2 BL BLW XX XL CU hbl c0 c1 c2 c3
    go_loopw [7] (fun i wr=>∃ k:Nat,k<=k9/\i=.int .i64 k/\Hid (∀ (j:Nat) v,j<k->L.ah[j]?=some v->v.name≠x.name)/\Below w5.heap.size w5 wr) (fun i _=>k9 - (intOf i).toNat)
    case atStart=>exact⟨0,Nat.zero_le _,rfl,zq (fun j v hj=>by omega),Below.refl _ _⟩
    obtain⟨k,hk,rfl,INW,hb⟩:=hrel;have BI:=zq hb;clear hb;by_cases hlt:k<k9
    ·obtain⟨y,hy⟩:∃ y,L.ah[k]?=some y:=⟨_,Zg (by have:=LT.o;have:=LU.o;omega)⟩;obtain⟨b',o',e',_,hd⟩:=(HU.o.below B8.o).at_ hy
     cases e'
     have d0:=hd 0 (.string y.name) rfl;rw[Nat.add_zero] at d0;have hlt':(k:Int)<(k9:Int):=by omega
     have j0:(0:Int)<=(k:Int):=by omega
     have j1:(k:Int)<(U:Int):=by have:=LT.o;omega
     have HY:=zq hy;have LTI:=zq hlt;have zd:=zq (show ∀ z:dh (Below wr.heap.size wr),z.w.cell? _=some _ from fun z=>(Mod.of_below z.ok).cell ((Mod.of_below BI.o).cell d0 (fun h=>h)) (fun h=>h));have zx:=zq (show ∀ z:dh (Below wr.heap.size wr),z.w.cell? ⟨H9,0,none⟩=some (.string x.name) from fun z=>((XW'.o.below BI.o).below z.ok).at_ 0 _ rfl);have z2:=zq (show ∀ z:dh (Below wr.heap.size wr),z.w.cell? ⟨w.heap.size,2,none⟩=some (.slice (some ⟨b,o,none⟩) U c2') from fun z=>((XLW.o.below BI.o).below z.ok).at_ 2 _ (by rw[ECS.o];rfl));clear hy hd d0 hk hlt
     cases hq:(y.name.toList==x.name.toList) with
     | true =>
       have FL:=zq (BAD.o (fun h=>h.things.names k9 k x y LTI.o HX.o HY.o ((mJ _ _).1 hq)))
       go_wp2_with fail
       refine dH (C:=Below wr.heap.size wr) (by kernel_rfl) (by kernel_rfl) ⟨rfl,rfl,rfl,Nat.le_refl _,fun _ _=>rfl⟩ (fun _=>?_);have gzd:=zd.o;have gzx:=zx.o;have gz2:=z2.o
       repeat (go_big_quiet_step (fail))
       refine wpQuiet_nil ?_;intro w7 hC;have B7:=zq (B8.o.trans ((BI.o.trans (hC.mono BI.o.size)).mono B8.o.size));clear gzd gzx gz2 hC
       go_wp2_with fail
       go_ret;exact⟨aj FL.o.symm,B7.o⟩
     | false =>
       have NE:=zq (show y.name≠x.name from fun h=>by rw[(mJ _ _).2 h] at hq;cases hq)
       go_wp2_with fail
       refine dH (C:=Below wr.heap.size wr) (by kernel_rfl) (by kernel_rfl) ⟨rfl,rfl,rfl,Nat.le_refl _,fun _ _=>rfl⟩ (fun _=>?_);have gzd:=zd.o;have gzx:=zx.o;have gz2:=z2.o
       repeat (go_big_quiet_step (fail))
       refine wpQuiet_nil ?_;intro w7 hC;have B7:=zq (BI.o.trans (hC.mono BI.o.size));clear gzd gzx gz2 hC
       go_wp2_with fail
       go_roundw
       case rel=>exact⟨k+1,by have:=LTI.o;omega,by go_num,zq (fun j z hj hz=>by
        by_cases e:j=k
        ·subst e;have h1:=HY.o;rw[hz] at h1;cases h1;exact NE.o
        exact INW.o j z (by omega) hz),B7.o⟩
       case measure=>have:=LTI.o;simp[intOf];omega
    have hlt':¬ (k:Int)<(k9:Int):=by omega
    have NO:=zq (show ∀ (j:Nat) v,j<k9->L.ah[j]?=some v->v.name≠x.name from fun j v hj hv=>INW.o j v (by omega) hv);have B7:=zq (B9.o.trans (BI.o.mono B9.o.size));clear hk hlt INW
    go_wp2_with fail
    go_roundw
    case rel=>exact⟨k9+1,by have:=LT.o;omega,by go_num,zq ⟨fun j z hj hz=>by
     by_cases e:j=k9
     ·subst e;have h1:=HX.o;rw[hz] at h1;cases h1;exact HQ.o
     ·exact INV.o.1 j z (by omega) hz,fun n m u v hn hm hu hv=>by
     by_cases e:n=k9
     ·subst e;have h1:=HX.o;rw[hu] at h1;cases h1;exact NO.o m v hm hv
     exact INV.o.2 n m u v (by omega) hm hu hv⟩,B7.o⟩
    case measure=>have:=LT.o;have:=K9.o;simp[intOf];omega
 have hlt':¬ (k:Int)<(U:Int):=by omega
 have UND:=zq (show (∀ (n:Nat) u,n<L.ah.length->L.ah[n]?=some u->u.Ok L.aQ.length)/\(∀ (n k:Nat) u v,n<L.ah.length->k<n->L.ah[n]?=some u->L.ah[k]?=some v->v.name≠u.name) from by
  have e1:=LC.o;have e2:=LU.o;rw[<-e1];exact⟨fun n u hn hu=>INV.o.1 n u (by omega) hu,fun n m u v hn hm hu hv=>INV.o.2 n m u v (by omega) hm hu hv⟩)
 clear hlt hk INV;have m3:wr.cell? ⟨w.heap.size,3,none⟩=some (.slice a3 I c3'):=XL.o.at_ 3 _ (by rw[ECS.o];rfl)
 go_wp2_with fail
 clear m3 hlt';have B2:=zq BLW.o;have X2:=zq XL.o;clear BL BLW XL;obtain⟨w2,hw2⟩:=Zn wr;rw[<-hw2] at B2 X2 ⊢;clear hw2
 go_loopw [97] (fun i wr=>∃ k:Nat,k<=I/\i=.int .i64 k/\Hid (∀ (j:Nat) x,j<k->L.af[j]?=some x->x.Ok U)/\Below w2.heap.size w2 wr) (fun i _=>I - (intOf i).toNat)
 case atStart=>exact⟨0,Nat.zero_le _,rfl,zq (fun j x hj=>by omega),Below.refl _ _⟩
 obtain⟨k,hk,rfl,INV,hb⟩:=hrel;have BL:=zq hb;have BLW:=zq (B2.o.trans (hb.mono B2.o.size));have XL:=zq (X2.o.below hb);clear hb;by_cases hlt:k<I
 ·obtain⟨x,hx⟩:∃ x,L.af[k]?=some x:=⟨_,Zg (by have:=LI.o;omega)⟩;obtain⟨b,o,rfl,hbl,hc⟩:=(HI.o.below BLW.o).at_ hx;have c0:=hc 0 (.int .i64 x.kind) rfl;have c1:=hc 1 (.int .i64 x.under) rfl;have c2:=hc 2 (.int .i64 x.mult) rfl;have c3:=hc 3 (.int .i64 x.strike) rfl;have c4:=hc 4 (.int .i64 x.aN) rfl;have c5:=hc 5 (.bool x.call) rfl;have c6:=hc 6 (.int .i64 x.mark) rfl;rw[Nat.add_zero] at c0;have hlt':(k:Int)<(I:Int):=by omega
  have HX:=zq hx;have LT:=zq hlt;have HS:=zq (List.mem_of_getElem? hx);have AX:=zq (show ∃ X,X=wr.alloc (.cells #[.int .i64 x.kind,.int .i64 x.under,.int .i64 x.mult,.int .i64 x.strike,.int .i64 x.aN,.bool x.call,.int .i64 x.mark] 66)/\Below wr.heap.size wr X/\aY X wr.heap.size #[.int .i64 x.kind,.int .i64 x.under,.int .i64 x.mult,.int .i64 x.strike,.int .i64 x.aN,.bool x.call,.int .i64 x.mark] from
   ⟨_,rfl,Zb,aY.new wr _ _⟩)
  have k0:(0:Int)<=(k:Int):=by omega
  have k3:(k:Int)<=31:=by omega
  have m1:(wr.alloc (.cells #[.int .i64 x.kind,.int .i64 x.under,.int .i64 x.mult,.int .i64 x.strike,.int .i64 x.aN,.bool x.call,.int .i64 x.mark] 66)).cell? ⟨w.heap.size,1,none⟩=some (.slice a1 C c1'):=((Mod.refl (fun _=>False) wr).alloc _).cell (XL.o.at_ 1 _ (by rw[ECS.o];rfl)) (fun h=>h);have m2:(wr.alloc (.cells #[.int .i64 x.kind,.int .i64 x.under,.int .i64 x.mult,.int .i64 x.strike,.int .i64 x.aN,.bool x.call,.int .i64 x.mark] 66)).cell? ⟨w.heap.size,2,none⟩=some (.slice a2 U c2'):=((Mod.refl (fun _=>False) wr).alloc _).cell (XL.o.at_ 2 _ (by rw[ECS.o];rfl)) (fun h=>h);clear hx hc hk hlt
  go_wp2_with fail
  obtain⟨X,hX,hbX,hbx⟩:=AX.o;rw[<-hX];have BX2:=zq hbX;have XX:=zq hbx;clear hX hbX hbx AX m1 m2;have CU:=zq (Dy x U (by have:=OK1.o;have:=LU.o;omega) X)
  cases hq:decide (x.Ok U) with
  | false =>
    have FL:=zq (BAD.o (fun h=>(of_decide_eq_false hq) (by have:=h.things.af x HS.o;rw[LU.o];exact this)));rw[hq] at CU;clear hq;refine CU.o.mono ?_;rintro e w' ⟨rfl,hb⟩;have B9:=zq (BLW.o.trans ((BX2.o.trans (hb.mono BX2.o.size)).mono BLW.o.size));clear hb
    go_wp2_with fail
    go_ret;exact⟨aj FL.o.symm,B9.o⟩
  | true =>
    have HQ:=zq (of_decide_eq_true hq);rw[hq] at CU;clear hq;refine CU.o.mono ?_;rintro e w' ⟨rfl,hb⟩;have B9:=zq (BL.o.trans ((BX2.o.trans (hb.mono BX2.o.size)).mono BL.o.size));clear hb
    go_wp2_with fail
    go_roundw
    case rel=>exact⟨k+1,by have:=LT.o;omega,by go_num,zq (fun j z hj hz=>by
     by_cases e:j=k
     ·subst e;have h1:=HX.o;rw[hz] at h1;cases h1;exact HQ.o
     exact INV.o j z (by omega) hz),B9.o⟩
    case measure=>have:=LT.o;simp[intOf];omega
 have hlt':¬ (k:Int)<(I:Int):=by omega
 have THI:=zq (show ji L from ji.of OK1.o.1 OK1.o.2.1 OK1.o.2.2.1 OK1.o.2.2.2 CUR.o UND.o.1 UND.o.2 (fun x hx=>by
  obtain⟨j,hj,e⟩:=List.mem_iff_getElem.1 hx;have:=INV.o j x (by have:=LI.o;omega) (by rw[<-e];exact List.getElem?_eq_getElem hj);rw[LU.o] at this;exact this))
 clear hlt hk INV CUR UND;have m0:wr.cell? ⟨w.heap.size,0,none⟩=some (.int .i64 L.day):=XL.o.at_ 0 _ (by rw[ECS.o];rfl);have m1:wr.cell? ⟨w.heap.size,1,none⟩=some (.slice a1 C c1'):=XL.o.at_ 1 _ (by rw[ECS.o];rfl);have m2:wr.cell? ⟨w.heap.size,2,none⟩=some (.slice a2 U c2'):=XL.o.at_ 2 _ (by rw[ECS.o];rfl);have m3:wr.cell? ⟨w.heap.size,3,none⟩=some (.slice a3 I c3'):=XL.o.at_ 3 _ (by rw[ECS.o];rfl);have m4:wr.cell? ⟨w.heap.size,4,none⟩=some (.slice a4 N c4'):=XL.o.at_ 4 _ (by rw[ECS.o];rfl);have m5:wr.cell? ⟨w.heap.size,5,none⟩=some (.slice a5 PN c5'):=XL.o.at_ 5 _ (by rw[ECS.o];rfl);have m6:wr.cell? ⟨w.heap.size,6,none⟩=some (.slice a6 ON c6'):=XL.o.at_ 6 _ (by rw[ECS.o];rfl);have m7:wr.cell? ⟨w.heap.size,7,none⟩=some (.slice a7 VN c7'):=XL.o.at_ 7 _ (by rw[ECS.o];rfl);have m8:wr.cell? ⟨w.heap.size,8,none⟩=some (.slice a8 KN c8'):=XL.o.at_ 8 _ (by rw[ECS.o];rfl)
 go_wp2_with fail
 clear m0 m1 m2 m3 m4 m5 m6 m7 m8;clear hlt';have B3:=zq BLW.o;have X3:=zq XL.o;clear BL BLW XL;refine (PAR.o wr B3.o).mono ?_;rintro e w4 ⟨v4,rfl,ho,hb⟩;have B4:=zq (B3.o.trans (hb.mono B3.o.size));have X4:=zq (X3.o.below hb);have OW:=zq ho;clear hb ho B3 X3
 go_wp2_with fail
 have CK:=zq (xW w4 v4 PS (gU OW.o));refine CK.o.mono ?_;rintro e w5 ⟨p,er,rfl,he,hb⟩;have B5:=zq (B4.o.trans (hb.mono B4.o.size));have X5:=zq (X4.o.below hb);have ER:=zq he;clear hb he B4 X4 OW CK;by_cases h0:er=0
 case neg =>
  have FL:=zq (BAD.o (fun h=>h0 (ER.o.2 (by rw[EPS.o];exact h.accounts.tree))));have e0:(er==0)=false:=beq_eq_false_iff_ne.2 h0;have e1:(er != 0)=true:=by rw[bne,e0];rfl
  clear h0
  go_wp2_with fail
  go_ret;exact⟨aj FL.o.symm,B5.o⟩
 subst h0;have TOK:=zq (ER.o.1 rfl);have n16:(N:Int)<=16:=by have:=TOK.o.hi;have:=PSL.o;omega
 have m4:w5.cell? ⟨w.heap.size,4,none⟩=some (.slice a4 N c4'):=X5.o.at_ 4 _ (by rw[ECS.o];rfl)
 go_wp2_with fail
 clear m4
 go_loopw [119] (fun i wr=>∃ k:Nat,k<=N/\i=.int .i64 k/\Hid (∀ (j:Nat) x,j<k->asl[j]?=some x->x.1.Ok j C)/\Below w5.heap.size w5 wr) (fun i _=>N - (intOf i).toNat)
 case atStart=>exact⟨0,Nat.zero_le _,rfl,zq (fun j x hj=>by omega),Below.refl _ _⟩
 obtain⟨k,hk,rfl,INV,hb⟩:=hrel;have BL:=zq hb;have BLW:=zq (B5.o.trans (hb.mono B5.o.size));have XL:=zq (X5.o.below hb);clear hb;by_cases hlt:k<N
 ·obtain⟨x,hx⟩:∃ x,asl[k]?=some x:=⟨_,Zg (by have:=LN.o;omega)⟩;obtain⟨b,o,rfl,hbl,hc⟩:=(HA.o.below BLW.o).at_ hx;have RC:=zq (CA.o x (List.mem_of_getElem? hx));obtain⟨va,ca,hva⟩:=RC.o.form;have c0:=hc 0 (.int .i64 x.1.parent) rfl;have c1:=hc 1 (.slice va x.1.aT.length ca) (by simp[Acc.cells,hva]);have c2:=hc 2 (.bool x.1.flag) rfl;have c3:=hc 3 (.int .i64 x.1.last) rfl;rw[Nat.add_zero] at c0;rw[hva] at RC;have hlt':(k:Int)<(N:Int):=by omega
  have HX:=zq hx;have LT:=zq hlt;have BADX:=zq (show ¬ x.1.Ok k C->R=false from fun hn=>BAD.o (fun h=>hn (by
   have:=h.accounts.ai k x.1 (by rw[SM.o,List.getElem?_map,HX.o];rfl);rw[LC.o];exact this)))
  obtain⟨M,hM⟩:=Zn x.1.aT.length;rw[<-hM] at c1 RC;have LM:=zq hM;obtain⟨FG,hFG⟩:=Zn x.1.flag;rw[<-hFG] at c2;have FE:=zq hFG;have m1:(wr.alloc (.cells #[.int .i64 x.1.parent,.slice va M ca,.bool FG,.int .i64 x.1.last] 52)).cell? ⟨w.heap.size,1,none⟩=some (.slice a1 C c1'):=((Mod.refl (fun _=>False) wr).alloc _).cell (XL.o.at_ 1 _ (by rw[ECS.o];rfl)) (fun h=>h);have BA:=zq (BLW.o.alloc BLW.o.size (.cells #[.int .i64 x.1.parent,.slice va M ca,.bool FG,.int .i64 x.1.last] 52));have BB:=zq (BL.o.alloc BL.o.size (.cells #[.int .i64 x.1.parent,.slice va M ca,.bool FG,.int .i64 x.1.last] 52));have k0:(0:Int)<=(k:Int):=by omega
  have k3:(k:Int)<=31:=by omega
  clear hx hc hva hM hlt hk hFG;by_cases g1:(M:Int)=(C:Int)
  case neg =>
   have FL:=zq (BADX.o (fun h=>g1 (by have:=h.1;have:=LM.o;omega)));have e0:((M:Int)==(C:Int))=false:=beq_eq_false_iff_ne.2 g1;have e1:((M:Int) != (C:Int))=true:=by rw[bne,e0];rfl
   clear g1
   go_wp2_with fail
   go_ret;exact⟨aj FL.o.symm,BA.o⟩
  have G1:=zq g1;have e0:((M:Int)==(C:Int))=true:=beq_iff_eq.2 g1;have e1:((M:Int) != (C:Int))=false:=by rw[bne,e0];rfl
  clear g1;by_cases g2:x.1.last<0
  ·have FL:=zq (BADX.o (fun h=>by have:=h.2.1;omega))
   go_wp2_with fail
   go_ret;exact⟨aj FL.o.symm,BA.o⟩
  by_cases g3:1099511627776<x.1.last
  ·have FL:=zq (BADX.o (fun h=>by have:=h.2.2.1;omega))
   go_wp2_with fail
   go_ret;exact⟨aj FL.o.symm,BA.o⟩
  have G2:=zq (show 0<=x.1.last/\x.1.last<=1099511627776 from by omega);have ch:((k:Int)<2/\FG=true)\/((k:Int)<2/\FG=false/\¬ x.1.last=0)\/((k:Int)<2/\FG=false/\x.1.last=0)\/(¬ (k:Int)<2):=by
   by_cases q1:(k:Int)<2
   ·by_cases q2:x.1.last=0
    ·cases FG
     ·exact Or.inr (Or.inr (Or.inl ⟨q1,rfl,q2⟩))
     exact Or.inl ⟨q1,rfl⟩
    cases FG
    ·exact Or.inr (Or.inl ⟨q1,rfl,q2⟩)
    exact Or.inl ⟨q1,rfl⟩
   exact Or.inr (Or.inr (Or.inr q1))
  have TAIL:=zq (show (k<2->x.1.flag=false/\x.1.last=0)->(∀ (j:Nat) q,j<M->x.1.aT[j]?=some q->aO q=true)->x.1.Ok k C from fun h1 h2 =>
   ⟨by have:=G1.o;have:=LM.o;omega,G2.o.1,G2.o.2,h1,fun q hq=>by
    obtain⟨j,hj,e⟩:=List.mem_iff_getElem.1 hq;exact h2 j q (by have:=LM.o;omega) (by rw[<-e];exact List.getElem?_eq_getElem hj)⟩)
  have NOT:=zq (show ∀ q∈x.1.aT,aO q=false->R=false from fun q hq hf=>BADX.o (fun h=>by rw[h.2.2.2.2 q hq] at hf;cases hf));rcases ch with ⟨f1,rfl⟩|⟨f1,rfl,f3⟩|⟨f1,rfl,f3⟩|f1
  ·have FL:=zq (BADX.o (fun h=>by have:=(h.2.2.2.1 (by omega)).1;rw[<-FE.o] at this;cases this))
   go_wp2_with fail
   go_ret;exact⟨aj FL.o.symm,BA.o⟩
  ·have FL:=zq (BADX.o (fun h=>f3 (h.2.2.2.1 (by omega)).2));have e2:(x.1.last==0)=false:=beq_eq_false_iff_ne.2 f3;have e3:(x.1.last != 0)=true:=by rw[bne,e2];rfl
   clear f3
   go_wp2_with fail
   go_ret;exact⟨aj FL.o.symm,BA.o⟩
  all_goals
   first
   | have HH:=zq (show (k<2->x.1.flag=false/\x.1.last=0) from fun _=>⟨FE.o.symm,f3⟩)
   | have HH:=zq (show (k<2->x.1.flag=false/\x.1.last=0) from fun h=>absurd h (by omega))
   try have e2:(x.1.last==0)=true:=beq_iff_eq.2 f3
   try have e3:(x.1.last != 0)=false:=by rw[bne,e2];rfl
   try clear f3
   go_wp2_with fail
   generalize hX9:(wr.alloc (Obj.cells _ 52))=X9 at BA BB ⊢;clear hX9 m1 c0 c1 c2 c3 BLW BL XL hbl;obtain⟨k9,hk9⟩:=Zn k;rw[<-hk9] at HX LT INV k0 k3 TAIL HH ⊢;have K9:=zq hk9;clear hk9
   go_loopw [155] (fun i wr=>∃ k:Nat,k<=M/\i=.int .i64 k/\Hid (∀ (j:Nat) q,j<k->x.1.aT[j]?=some q->aO q=true)/\wr=X9) (fun i _=>M - (intOf i).toNat)
   case atStart=>exact⟨0,Nat.zero_le _,rfl,zq (fun j v hj=>by omega),rfl⟩
   obtain⟨k,hk,rfl,INW,rfl⟩:=hrel;have ROW:=zq (RC.o.below BA.o);by_cases hlt:k<M
   ·obtain⟨y,hy⟩:∃ y,x.1.aT[k]?=some y:=⟨_,Zg (by have:=LM.o;omega)⟩;obtain⟨b',o',rfl,_,hd⟩:=ROW.o.at_ hy;have d0:=hd 0 (.int .i64 y) rfl;rw[Nat.mul_one,Nat.add_zero] at d0;have hlt':(k:Int)<(M:Int):=by omega
    have j0:(0:Int)<=(k:Int):=by omega
    have j1:(k:Int)<=4:=by have:=G1.o;omega
    have HY:=zq hy;have LTI:=zq hlt;have FT:=zq (uO y);clear hy hd hlt hk
    cases hq:aO y with
    | false =>
      have FL:=zq (NOT.o y (List.mem_of_getElem? HY.o) hq);rw[hq] at FT;clear hq
      go_wp2_with fail
      refine (FT.o _).mono ?_;rintro e w' ⟨rfl,rfl⟩
      go_wp2_with fail
      go_ret;exact⟨aj FL.o.symm,BA.o⟩
    | true =>
      have HQ:=zq hq;rw[hq] at FT;clear hq
      go_wp2_with fail
      refine (FT.o _).mono ?_;rintro e w' ⟨rfl,rfl⟩
      go_wp2_with fail
      go_roundw
      case rel=>exact⟨k+1,by have:=LTI.o;omega,by go_num,zq (fun j z hj hz=>by
       by_cases e:j=k
       ·subst e;have h1:=HY.o;rw[hz] at h1;cases h1;exact HQ.o
       exact INW.o j z (by omega) hz),trivial⟩
      case measure=>have:=LTI.o;simp[intOf];omega
   have hlt':¬ (k:Int)<(M:Int):=by omega
   have YES:=zq (TAIL.o HH.o (fun j q hj hq=>INW.o j q (by omega) hq));clear hk hlt INW
   go_wp2_with fail
   go_roundw
   case rel=>exact⟨k9+1,by have:=LT.o;omega,by go_num,zq (fun j z hj hz=>by
    by_cases e:j=k9
    ·subst e;have h1:=HX.o;rw[hz] at h1;cases h1;exact YES.o
    exact INV.o j z (by omega) hz),BB.o⟩
   case measure=>have:=LT.o;have:=K9.o;simp[intOf];omega
 have hlt':¬ (k:Int)<(N:Int):=by omega
 have ACC:=zq (show jy L from ⟨by have:=TOK.o;rw[EPS.o] at this;exact this,fun v a ha=>by
  rw[SM.o,List.getElem?_map] at ha
  cases hz:asl[v]? with
  | none=>rw[hz] at ha;cases ha
  | some z =>
    rw[hz] at ha;cases ha;have:=INV.o v z (by have:=(List.getElem?_eq_some_iff.1 hz).1;have:=LN.o;omega) hz;rw[LC.o] at this;exact this⟩)
 clear hlt hk INV
 go_wp2_with fail
 have B6:=zq BLW.o;have X6:=zq XL.o;obtain⟨w6,hw6⟩:=Zn wr;rw[<-hw6] at B6 X6 ⊢;clear hw6 BL BLW XL hlt';have z4:=zq (show ∀ z:dh (Below w6.heap.size w6),z.w.cell? ⟨w.heap.size,4,none⟩=some (.slice a4 N c4') from fun z=>(X6.o.below z.ok).at_ 4 _ (by rw[ECS.o];rfl));have z3:=zq (show ∀ z:dh (Below w6.heap.size w6),z.w.cell? ⟨w.heap.size,3,none⟩=some (.slice a3 I c3') from fun z=>(X6.o.below z.ok).at_ 3 _ (by rw[ECS.o];rfl));refine dH (C:=Below w6.heap.size w6) (by kernel_rfl) (by kernel_rfl) ⟨rfl,rfl,rfl,Nat.le_refl _,fun _ _=>rfl⟩ (fun _=>?_);have gz3:=z3.o;have gz4:=z4.o
 repeat (go_big_quiet_step (fail))
 refine wpQuiet_nil ?_;intro w7 hC;have B7:=zq (B6.o.trans (hC.mono B6.o.size));have X7:=zq (X6.o.below hC);clear gz3 gz4 z3 z4 hC B6 X6;have m5:w7.cell? ⟨w.heap.size,5,none⟩=some (.slice a5 PN c5'):=X7.o.at_ 5 _ (by rw[ECS.o];rfl)
 go_wp2_with fail
 clear m5;have K4:=zq (J8 w7 _ L.au N I (HP.o.below B7.o));by_cases q4:jB L.au N I
 case neg =>
  have FL:=zq (BAD.o (fun h=>q4 (by have:=h.au;rw[AL.o,<-LI.o] at this;exact this)));rw[decide_eq_false q4] at K4;clear q4;refine K4.o.mono ?_;rintro e w' ⟨rfl,hb⟩;have B:=zq (B7.o.trans (hb.mono B7.o.size));clear hb
  go_wp2_with fail
  go_ret;exact⟨aj FL.o.symm,B.o⟩
 have Y4:=zq q4;rw[decide_eq_true q4] at K4;clear q4;refine K4.o.mono ?_;rintro e w8 ⟨rfl,hb⟩;have B8:=zq (B7.o.trans (hb.mono B7.o.size));have X8:=zq (X7.o.below hb);clear hb K4;have m6:w8.cell? ⟨w.heap.size,6,none⟩=some (.slice a6 ON c6'):=X8.o.at_ 6 _ (by rw[ECS.o];rfl)
 go_wp2_with fail
 clear m6;have K5:=zq (DI w8 _ L.orders N I (HO.o.below B8.o));by_cases q5:gX L.orders N I
 case neg =>
  have FL:=zq (BAD.o (fun h=>q5 (by have:=h.orders;rw[AL.o,<-LI.o] at this;exact this)));rw[decide_eq_false q5] at K5;clear q5;refine K5.o.mono ?_;rintro e w' ⟨rfl,hb⟩;have B:=zq (B8.o.trans (hb.mono B8.o.size));clear hb
  go_wp2_with fail
  go_ret;exact⟨aj FL.o.symm,B.o⟩
 have Y5:=zq q5;rw[decide_eq_true q5] at K5;clear q5;refine K5.o.mono ?_;rintro e w9 ⟨rfl,hb⟩;have B9:=zq (B8.o.trans (hb.mono B8.o.size));have X9:=zq (X8.o.below hb);clear hb K5;have m7:w9.cell? ⟨w.heap.size,7,none⟩=some (.slice a7 VN c7'):=X9.o.at_ 7 _ (by rw[ECS.o];rfl);have m8:w9.cell? ⟨w.heap.size,8,none⟩=some (.slice a8 KN c8'):=X9.o.at_ 8 _ (by rw[ECS.o];rfl)
 go_wp2_with fail
 clear m7 m8;have K6:=zq (DF w9 _ _ L.aG L.aJ N I (HV.o.below B9.o) (HK.o.below B9.o));by_cases q6:pY L.aG L.aJ N I
 case neg =>
  have FL:=zq (BAD.o (fun h=>q6 (by have:=h.aJ;rw[AL.o,<-LI.o] at this;exact this)));rw[decide_eq_false q6] at K6;clear q6;refine K6.o.mono ?_;rintro e w' ⟨rfl,hb⟩;have B:=zq (B9.o.trans (hb.mono B9.o.size));clear hb
  go_wp2_with fail
  go_ret;exact⟨aj FL.o.symm,B.o⟩
 have Y6:=zq q6;rw[decide_eq_true q6] at K6;clear q6;refine K6.o.mono ?_;rintro e wa ⟨rfl,hb⟩;have BA:=zq (B9.o.trans (hb.mono B9.o.size));have XA:=zq (X9.o.below hb);clear hb K6;have m6:wa.cell? ⟨w.heap.size,6,none⟩=some (.slice a6 ON c6'):=XA.o.at_ 6 _ (by rw[ECS.o];rfl);have o32:(ON:Int)<=32:=by have:=Y5.o.len;have:=LO.o;omega
 go_wp2_with fail
 clear m6
 go_loopw [197] (fun i wr=>∃ k:Nat,k<=ON/\i=.int .i64 k/\Hid (∀ (j:Nat) o,j<k->L.orders[j]?=some o->qj asl o=false)/\Below wa.heap.size wa wr) (fun i _=>ON - (intOf i).toNat)
 case atStart=>exact⟨0,Nat.zero_le _,rfl,zq (fun j x hj=>by omega),Below.refl _ _⟩
 obtain⟨k,hk,rfl,INV,hb⟩:=hrel;have BL:=zq hb;have BLW:=zq (BA.o.trans (hb.mono BA.o.size));have XL:=zq (XA.o.below hb);clear hb;by_cases hlt:k<ON
 ·obtain⟨x,hx⟩:∃ x,L.orders[k]?=some x:=⟨_,Zg (by have:=LO.o;omega)⟩;have HS:=zq (List.mem_of_getElem? hx);have XOK:=zq (Y5.o.all x HS.o);obtain⟨y,hy⟩:∃ y,asl[x.ak.toNat]?=some y:=⟨_,Zg (by have h1:=XOK.o.1;have h2:=XOK.o.2.1;have:=LN.o;omega)⟩;obtain⟨b,o,rfl,hbl,hc⟩:=(HO.o.below BLW.o).at_ hx;obtain⟨b',o',rfl,_,hd⟩:=(HA.o.below BLW.o).at_ hy;have c0:=hc 0 (.int .i64 x.ak) rfl;have c1:=hc 1 (.int .i64 x.id) rfl;have c2:=hc 2 (.int .i64 x.instr) rfl;have c3:=hc 3 (.int .i64 x.qty) rfl;have c4:=hc 4 (.int .i64 x.price) rfl;rw[Nat.add_zero] at c0;obtain⟨q,hq⟩:∃ q:Nat,x.ak=(q:Int):=⟨x.ak.toNat,by have h1:=XOK.o.1;omega⟩;have qt:x.ak.toNat=q:=by omega
  rw[qt] at hd;have d3:=hd 3 (.int .i64 y.1.last) rfl;have hlt':(k:Int)<(ON:Int):=by omega
  have HX:=zq hx;have LT:=zq hlt;have HY:=zq hy;have k0:(0:Int)<=(k:Int):=by omega
  have q0:(0:Int)<=(q:Int):=by omega
  have q1:(q:Int)<(N:Int):=by have h2:=XOK.o.2.1;omega
  have LATE:=zq (show qj asl x=decide (y.1.last<x.id) from by unfold qj;rw[HY.o]);have QA:=zq hq;rw[hq] at c0;have AX:=zq (show ∃ X,X=wr.alloc (.cells #[.int .i64 (q:Nat),.int .i64 x.id,.int .i64 x.instr,.int .i64 x.qty,.int .i64 x.price] 74)/\Below wr.heap.size wr X/\aY X wr.heap.size #[.int .i64 (q:Nat),.int .i64 x.id,.int .i64 x.instr,.int .i64 x.qty,.int .i64 x.price] from
   ⟨_,rfl,Zb,aY.new wr _ _⟩)
  clear hx hc hy hd hk hlt hq qt
  go_wp2_with fail
  obtain⟨X,hX,hbX,hbx⟩:=AX.o;rw[<-hX];have BX2:=zq hbX;have d3':=(Mod.of_below hbX).cell d3 (fun h=>h);have zd:=zq (show ∀ z:dh (Below X.heap.size X),z.w.cell? _=some _ from fun z=>(Mod.of_below z.ok).cell d3' (fun h=>h));have z0:=zq (show ∀ z:dh (Below X.heap.size X),z.w.cell? _=some _ from fun z=>(hbx.below z.ok).at_ 0 (.int .i64 (q:Nat)) rfl);have z1:=zq (show ∀ z:dh (Below X.heap.size X),z.w.cell? _=some _ from fun z=>(hbx.below z.ok).at_ 1 (.int .i64 x.id) rfl);have z4:=zq (show ∀ z:dh (Below X.heap.size X),z.w.cell? ⟨w.heap.size,4,none⟩=some (.slice (some ⟨b',o',none⟩) N c4') from fun z=>((XL.o.below hbX).below z.ok).at_ 4 _ (by rw[ECS.o];rfl));clear hX hbX hbx AX d3 d3' c0 c1 c2 c3 c4;refine dH (C:=Below X.heap.size X) (by kernel_rfl) (by kernel_rfl) ⟨rfl,rfl,rfl,Nat.le_refl _,fun _ _=>rfl⟩ (fun _=>?_);have gzd:=zd.o;have gz0:=z0.o;have gz1:=z1.o;have gz4:=z4.o
  repeat (go_big_quiet_step (fail))
  refine wpQuiet_nil ?_;intro wc hC;have BC:=zq (BL.o.trans ((BX2.o.trans (hC.mono BX2.o.size)).mono BL.o.size));have BD:=zq (BLW.o.trans ((BX2.o.trans (hC.mono BX2.o.size)).mono BLW.o.size));clear gzd gz0 gz1 gz4 zd z0 z1 z4 hC;by_cases hl:y.1.last<x.id
  ·have FL:=zq (BAD.o (fun h=>by
    have:=h.ids x HS.o y.1 (by rw[SM.o,List.getElem?_map,HY.o];rfl);omega))
   go_wp2_with fail
   go_ret;exact⟨aj FL.o.symm,BD.o⟩
  have NL:=zq (show qj asl x=false from by rw[LATE.o];exact decide_eq_false hl)
  go_wp2_with fail
  go_roundw
  case rel=>exact⟨k+1,by have:=LT.o;omega,by go_num,zq (fun j z hj hz=>by
   by_cases e:j=k
   ·subst e;have h1:=HX.o;rw[hz] at h1;cases h1;exact NL.o
   exact INV.o j z (by omega) hz),BC.o⟩
  case measure=>have:=LT.o;simp[intOf];omega
 have hlt':¬ (k:Int)<(ON:Int):=by omega
 have FL:=zq (EQ.o.trans (decide_eq_true ⟨DAY.o.1,DAY.o.2,THI.o,ACC.o,by rw[AL.o,<-LI.o];exact Y4.o,by rw[AL.o,<-LI.o];exact Y5.o,by rw[AL.o,<-LI.o];exact Y6.o,fun o ho a hacc=>by
  obtain⟨j,hj,e⟩:=List.mem_iff_getElem.1 ho;have h1:=INV.o j o (by have:=LO.o;omega) (by rw[<-e];exact List.getElem?_eq_getElem hj);unfold qj at h1;rw[SM.o,List.getElem?_map] at hacc
  cases hz:asl[o.ak.toNat]? with
  | none=>rw[hz] at hacc;cases hacc
  | some z =>
    rw[hz] at hacc h1;have h2:z.1=a:=by simpa using hacc
    rw[<-h2]
    simp only[decide_eq_false_iff_not] at h1
    omega⟩))
 clear hlt hk INV
 go_wp2_with fail
 go_ret;exact⟨aj FL.o.symm,BLW.o⟩
open Classical in
theorem N9 {w:World} {V:aB} {L:aH} (h:bK w V L) (hL:L.ai.length<=1024) {B:Bool} (hB:decide L.Good=B) :
 Calls Tryz.prog 31 #[V.val L] w fun e w'=>e=.returned (.bool B)/\Below w.heap.size w w':=by
 have:=JZ w V L h hL;rw[hB] at this;exact this
end Go.Proofs.YtcepekniflaoaaaGreatDoor
