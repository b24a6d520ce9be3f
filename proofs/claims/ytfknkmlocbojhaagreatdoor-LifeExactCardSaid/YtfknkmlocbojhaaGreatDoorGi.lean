/- Joined: Rf11, Rf12, RGain, UnderR, RLoss, RNeed. -/
import Derived.Test.YtfknkmlocbojhaaGreatDoorGd
import Derived.Test.YtfknkmlocbojhaaGreatDoorGb
import Derived.Test.YtfknkmlocbojhaaGreatDoorGe
import Derived.Test.YtfknkmlocbojhaaGreatDoorGf
import Derived.Test.YtfknkmlocbojhaaGreatDoorGg
set_option linter.unusedVariables false
set_option linter.unusedSimpArgs false
set_option maxRecDepth 100000
set_option maxHeartbeats 4000000
namespace Go.Proofs.YtfknkmlocbojhaaGreatDoor
open Go.RowKit Go.Bw Go.Maps Go.Shelf
theorem mg (x:Int) (h0:0<=x) (h1:x<=100000000000000) (w:World):Calls Tryz.prog 146 #[.int .i64 x] w fun e w'=>e=.returned (.bool true)/\w=w':=by
 go_enter Tryz.func146,Tryz.ntmps146
 go_wp2_with fail
 go_ret;refine⟨aN ?_,rfl⟩
 first|rfl|simp|(simp;omega)
theorem JX (call:Bool) (strike price dI days:Int) (s0:0<=strike) (s1:strike<=1000000000000) (p0:0<=price) (p1:price<=1200000000000) (v0:0<=dI) (v1:dI<=62500) (d0:-100000<=days) (d1:days<=100000) (w:World) :
 Calls Tryz.prog 147 #[.bool call,.int .i64 strike,.int .i64 price,.int .i64 dI,.int .i64 days] w fun e w'=>e=.returned (.tuple #[.int .i64 (valueA call strike price dI days).1,.int .i64 0])/\Below w.heap.size w w':=by
 obtain⟨R,hR⟩:=Zn ((valueA call strike price dI days).1);rw[<-hR];have EQ:=zq hR;have I1:=zq (fun W=>mg strike s0 (by omega) W);have I2:=zq (fun W=>mg price p0 (by omega) W);have I3:=zq (fun W=>mg dI v0 (by omega) W);clear hR;obtain⟨gap,hgap⟩:=Zn (if call=true then price - strike else strike - price);have GA:=zq hgap;have gb:-1200000000000<=gap/\gap<=1200000000000:=by rw[hgap];split <;> omega
 have gn:(price - strike).natAbs=gap.natAbs:=by rw[hgap];split <;> omega
 have GN:=zq gn;obtain⟨gb0,gb1⟩:=gb;clear gn;by_cases hd:days<=0
 ·have RG:=zq (show R=max gap 0 from by rw[EQ.o];unfold valueA;rw[if_neg (by omega),if_pos hd,<-GA.o]);clear GN EQ;by_cases hg0:gap<0
  ·have EG:=zq (show R=0 from by rw[RG.o];omega)
   cases call
   all_goals
    have e0:=GA.o
    first|rw[if_neg (by decide)] at e0|rw[if_pos rfl] at e0
    clear hgap GA;subst e0
    go_enter Tryz.func147,Tryz.ntmps147
    go_wp2_with fail
    refine (I1.o _).mono ?_;rintro e w' ⟨rfl,rfl⟩
    go_wp2_with fail
    refine (I2.o _).mono ?_;rintro e w' ⟨rfl,rfl⟩
    go_wp2_with fail
    refine (I3.o _).mono ?_;rintro e w' ⟨rfl,rfl⟩
    go_wp2_with fail
    go_ret2;exact⟨by rw[EG.o];first|done|rfl|simp,Below.refl _ _⟩
  have EG:=zq (show R=gap from by rw[RG.o];omega)
  cases call
  all_goals
   have e0:=GA.o
   first|rw[if_neg (by decide)] at e0|rw[if_pos rfl] at e0
   clear hgap GA;subst e0
   go_enter Tryz.func147,Tryz.ntmps147
   go_wp2_with fail
   refine (I1.o _).mono ?_;rintro e w' ⟨rfl,rfl⟩
   go_wp2_with fail
   refine (I2.o _).mono ?_;rintro e w' ⟨rfl,rfl⟩
   go_wp2_with fail
   refine (I3.o _).mono ?_;rintro e w' ⟨rfl,rfl⟩
   go_wp2_with fail
   go_ret2;exact⟨by rw[EG.o];first|done|rfl|simp,Below.refl _ _⟩
 have m1:=qP v0 (show 0<=days by omega) v1 d1;have m0:0<=dI*days:=Int.mul_nonneg v0 (by omega);have e1:gB dI days=(dI*days,0):=by
  rw[mX,if_pos ⟨aS.2 (by omega),aS.2 (by omega),aS.2 (by omega)⟩]
 have m2:=qP s0 m0 s1 (show dI*days<=6250000000 by omega);obtain⟨e2,h0,h1⟩:=oW strike (dI*days) 3650000 1800000000000000 s0 m0 (by omega) (by omega) (by omega) (by omega) (by omega) (by omega);have FM:=zq (fun W=>zi dI days W);have FD:=zq (fun W=>TA strike (dI*days) 3650000 0 W);rw[e1] at FM;rw[e2] at FD;have EV:=zq (show valueA call strike price dI days=fQ (max (if call then price - strike else strike - price) 0) (max (strike*(dI*days) / 3650000 - ((price - strike).natAbs:Int) / 2) 0) from by
  unfold valueA;rw[if_neg (by omega),if_neg hd,if_neg (by omega),e1,if_neg (by simp)];simp only;rw[e2,if_neg (by simp)])
 obtain⟨M,hM⟩:=Zn (dI*days);obtain⟨t,ht⟩:=Zn (strike*(dI*days) / 3650000);rw[<-ht] at h0 h1 FD EV;rw[<-hM] at FM FD;clear hM ht e1 e2 m0 m1 m2;have hd':¬ 100000<days:=by omega
 rw[<-GA.o,GN.o] at EV;obtain⟨A,hA⟩:=Zn (max gap 0);obtain⟨B,hB⟩:=Zn (max (t - (gap.natAbs:Int) / 2) 0);have a0:0<=A/\A<=1200000000000:=by omega
 have b0:0<=B/\B<=1800000000000000:=by omega
 have FA:=zq (fun W=>Hy A B W);have ea:fQ A B=(A+B,0):=pI (aS.2 (by omega)) (aS.2 (by omega)) (aS.2 (by omega));rw[ea] at FA;have GV:=zq (show R=A+B from by rw[EQ.o,EV.o,<-hA,<-hB,ea]);have HA:=zq hA;have HB:=zq hB;clear EV EQ GN hA hB ea a0 b0;by_cases hg0:gap<0
 ·have hA0:=zq (show (0:Int)=A from by have:=HA.o;omega);have q1:Int.tdiv (-gap) 2=-gap / 2:=Int.tdiv_eq_ediv_of_nonneg (by omega);by_cases hm:t - -gap / 2<0
  ·have hB0:=zq (show (0:Int)=B from by have:=HB.o;omega);rw[<-hA0.o,<-hB0.o] at FA GV;clear HA HB hA0 hB0
   cases call
   all_goals
    have e0:=GA.o
    first|rw[if_neg (by decide)] at e0|rw[if_pos rfl] at e0
    clear hgap GA;subst e0
    go_enter Tryz.func147,Tryz.ntmps147
    go_wp2_with fail
    refine (I1.o _).mono ?_;rintro e w' ⟨rfl,rfl⟩
    go_wp2_with fail
    refine (I2.o _).mono ?_;rintro e w' ⟨rfl,rfl⟩
    go_wp2_with fail
    refine (I3.o _).mono ?_;rintro e w' ⟨rfl,rfl⟩
    go_wp2_with fail
    refine (FM.o _).mono ?_;rintro e w1 ⟨rfl,hb⟩;have B1:=zq hb;clear hb
    go_wp2_with fail
    refine (FD.o _).mono ?_;rintro e w2 ⟨rfl,hb⟩;have B2:=zq (B1.o.trans (hb.mono B1.o.size));clear hb
    go_wp2_with fail
    refine (FA.o _).mono ?_;rintro e w3 ⟨rfl,rfl⟩
    go_wp2_with fail
    go_ret2;exact⟨by rw[GV.o];first|done|rfl|simp,B2.o⟩
  have hB0:=zq (show t - -gap / 2=B from by have:=HB.o;omega);rw[<-hA0.o,<-hB0.o] at FA GV;clear HA HB hA0 hB0
  cases call
  all_goals
   have e0:=GA.o
   first|rw[if_neg (by decide)] at e0|rw[if_pos rfl] at e0
   clear hgap GA;subst e0
   go_enter Tryz.func147,Tryz.ntmps147
   go_wp2_with fail
   refine (I1.o _).mono ?_;rintro e w' ⟨rfl,rfl⟩
   go_wp2_with fail
   refine (I2.o _).mono ?_;rintro e w' ⟨rfl,rfl⟩
   go_wp2_with fail
   refine (I3.o _).mono ?_;rintro e w' ⟨rfl,rfl⟩
   go_wp2_with fail
   refine (FM.o _).mono ?_;rintro e w1 ⟨rfl,hb⟩;have B1:=zq hb;clear hb
   go_wp2_with fail
   refine (FD.o _).mono ?_;rintro e w2 ⟨rfl,hb⟩;have B2:=zq (B1.o.trans (hb.mono B1.o.size));clear hb
   go_wp2_with fail
   refine (FA.o _).mono ?_;rintro e w3 ⟨rfl,rfl⟩
   go_wp2_with fail
   go_ret2;exact⟨by rw[GV.o];first|done|rfl|simp,B2.o⟩
 have hA0:=zq (show gap=A from by have:=HA.o;omega);have q1:Int.tdiv gap 2=gap / 2:=Int.tdiv_eq_ediv_of_nonneg (by omega);by_cases hm:t - gap / 2<0
 ·have hB0:=zq (show (0:Int)=B from by have:=HB.o;omega);rw[<-hA0.o,<-hB0.o] at FA GV;clear HA HB hA0 hB0
  cases call
  all_goals
   have e0:=GA.o
   first|rw[if_neg (by decide)] at e0|rw[if_pos rfl] at e0
   clear hgap GA;subst e0
   go_enter Tryz.func147,Tryz.ntmps147
   go_wp2_with fail
   refine (I1.o _).mono ?_;rintro e w' ⟨rfl,rfl⟩
   go_wp2_with fail
   refine (I2.o _).mono ?_;rintro e w' ⟨rfl,rfl⟩
   go_wp2_with fail
   refine (I3.o _).mono ?_;rintro e w' ⟨rfl,rfl⟩
   go_wp2_with fail
   refine (FM.o _).mono ?_;rintro e w1 ⟨rfl,hb⟩;have B1:=zq hb;clear hb
   go_wp2_with fail
   refine (FD.o _).mono ?_;rintro e w2 ⟨rfl,hb⟩;have B2:=zq (B1.o.trans (hb.mono B1.o.size));clear hb
   go_wp2_with fail
   refine (FA.o _).mono ?_;rintro e w3 ⟨rfl,rfl⟩
   go_wp2_with fail
   go_ret2;exact⟨by rw[GV.o];first|done|rfl|simp,B2.o⟩
 have hB0:=zq (show t - gap / 2=B from by have:=HB.o;omega);rw[<-hA0.o,<-hB0.o] at FA GV;clear HA HB hA0 hB0
 cases call
 all_goals
  have e0:=GA.o
  first|rw[if_neg (by decide)] at e0|rw[if_pos rfl] at e0
  clear hgap GA;subst e0
  go_enter Tryz.func147,Tryz.ntmps147
  go_wp2_with fail
  refine (I1.o _).mono ?_;rintro e w' ⟨rfl,rfl⟩
  go_wp2_with fail
  refine (I2.o _).mono ?_;rintro e w' ⟨rfl,rfl⟩
  go_wp2_with fail
  refine (I3.o _).mono ?_;rintro e w' ⟨rfl,rfl⟩
  go_wp2_with fail
  refine (FM.o _).mono ?_;rintro e w1 ⟨rfl,hb⟩;have B1:=zq hb;clear hb
  go_wp2_with fail
  refine (FD.o _).mono ?_;rintro e w2 ⟨rfl,hb⟩;have B2:=zq (B1.o.trans (hb.mono B1.o.size));clear hb
  go_wp2_with fail
  refine (FA.o _).mono ?_;rintro e w3 ⟨rfl,rfl⟩
  go_wp2_with fail
  go_ret2;exact⟨by rw[GV.o];first|done|rfl|simp,B2.o⟩
theorem Oo (i:Ins) (n:Nat) (hi:i.Ok n) (price dI day:Int) (p0:0<=price) (p1:price<=1200000000000) (v0:0<=dI) (v1:dI<=62500) (d0:0<=day) (d1:day<=100000) (w:World) :
 Calls Tryz.prog 77 #[.agg #[.int .i64 i.kind,.int .i64 i.under,.int .i64 i.mult,.int .i64 i.strike,.int .i64 i.aO,.bool i.call,.int .i64 i.mark],.int .i64 price,.int .i64 dI,.int .i64 day] w fun e w'=>e=.returned (.tuple #[.int .i64 (lq i price dI day).1,.int .i64 0])/\Below w.heap.size w w':=by
 obtain⟨R,hR⟩:=Zn ((lq i price dI day).1);rw[<-hR];obtain⟨_,_,_,_,_,_,hk⟩:=hi;have EQ:=zq hR;have I1:=zq (fun W=>mg price p0 (by omega) W);have I2:=zq (fun W=>mg dI v0 (by omega) W);have B0:=zq ((Below.refl w.heap.size w).alloc (Nat.le_refl _) (.cells #[.int .i64 i.kind,.int .i64 i.under,.int .i64 i.mult,.int .i64 i.strike,.int .i64 i.aO,.bool i.call,.int .i64 i.mark] 51));have g5:¬ day<0:=by omega
 have g6:¬ 100000<day:=by omega
 clear hR;by_cases h3:i.kind=3
 ·have hk3:1<=i.strike/\i.strike<=1000000000000/\1<=i.aO/\i.aO<=100000:=by
   rcases hk with h|h|h
   ·omega
   ·omega
   exact h.2
  obtain⟨s0,s1,e0,e1⟩:=hk3;have VA:=zq (fun W=>JX i.call i.strike price dI (i.aO - day) (by omega) s1 p0 p1 v0 v1 (by omega) (by omega) W);have EV:=zq (show R=(valueA i.call i.strike price dI (i.aO - day)).1 from by
   rw[EQ.o];unfold lq;rw[if_neg (by omega),if_neg (by omega),if_neg (by simp[h3]),if_neg (by omega)])
  rw[<-EV.o] at VA;have g1:¬ i.kind<1:=by omega
  have g2:¬ 3<i.kind:=by omega
  have g3:¬ i.kind<3:=by omega
  have g7:¬ i.aO<0:=by omega
  have g8:¬ 100000<i.aO:=by omega
  clear h3 hk
  go_enter Tryz.func77,Tryz.ntmps77
  go_wp2_with fail
  refine (I1.o _).mono ?_;rintro e w' ⟨rfl,rfl⟩
  go_wp2_with fail
  refine (I2.o _).mono ?_;rintro e w' ⟨rfl,rfl⟩
  go_wp2_with fail
  refine (VA.o _).mono ?_;rintro e w' ⟨rfl,hb⟩;have B1:=zq (B0.o.trans (hb.mono (by simp)));clear hb
  go_wp2_with fail
  go_ret2;exact⟨rfl,B1.o⟩
 have RV:=zq (show R=price from by rw[EQ.o];unfold lq;rw[if_neg (by omega),if_neg (by omega),if_pos h3]);have g1:¬ i.kind<1:=by omega
 have g2:¬ 3<i.kind:=by omega
 have g3:i.kind<3:=by omega
 clear h3 hk
 go_enter Tryz.func77,Tryz.ntmps77
 go_wp2_with fail
 refine (I1.o _).mono ?_;rintro e w' ⟨rfl,rfl⟩
 go_wp2_with fail
 refine (I2.o _).mono ?_;rintro e w' ⟨rfl,rfl⟩
 go_wp2_with fail
 go_ret2;exact⟨by rw[RV.o];rfl,B0.o⟩
theorem H7 (price dI:Int) (p0:0<=price) (p1:price<=1000000000000) (v0:0<=dI) (v1:dI<=50000) (w:World):Calls Tryz.prog 76 #[.int .i64 price,.int .i64 dI] w fun e w'=>e=.returned (.bool true)/\w=w':=by
 go_enter Tryz.func76,Tryz.ntmps76
 go_wp2_with fail
 go_ret;refine⟨aN ?_,rfl⟩
 first|rfl|simp
end Go.Proofs.YtfknkmlocbojhaaGreatDoor
namespace Go.Proofs.YtfknkmlocbojhaaGreatDoor
open Go.RowKit Go.Bw Go.Maps Go.Shelf Go.Bw.Fall
end Go.Proofs.YtfknkmlocbojhaaGreatDoor
namespace Go.Proofs.YtfknkmlocbojhaaGreatDoor
open Go.RowKit Go.Bw Go.Maps Go.Shelf
end Go.Proofs.YtfknkmlocbojhaaGreatDoor
namespace Go.Proofs.YtfknkmlocbojhaaGreatDoor
open Go.RowKit Go.Bw Go.Maps Go.Shelf Go.Bw.Fall
end Go.Proofs.YtfknkmlocbojhaaGreatDoor
