/- Joined: Rf11, Rf12, RGain, UnderR, RLoss, RNeed. -/
import Derived.Test.YtcepekniflaoaaaGreatDoorGd
import Derived.Test.YtcepekniflaoaaaGreatDoorGb
import Derived.Test.YtcepekniflaoaaaGreatDoorGe
import Derived.Test.YtcepekniflaoaaaGreatDoorGf
import Derived.Test.YtcepekniflaoaaaGreatDoorGg
set_option linter.unusedVariables false
set_option linter.unusedSimpArgs false
set_option maxRecDepth 100000
set_option maxHeartbeats 8000000
namespace Go.Proofs.YtcepekniflaoaaaGreatDoor
open Go.RowKit Go.Bw Go.Maps Go.Shelf
theorem kX (x:Int) (h0:0<=x) (h1:x<=100000000000000) (w:World):Calls Tryz.prog 130 #[.int .i64 x] w fun e w'=>e=.returned (.bool true)/\w=w':=by
 go_enter Tryz.func130,Tryz.ntmps130
 go_wp2_with fail
 go_ret;refine⟨aj ?_,rfl⟩
 first|rfl|simp|(simp;omega)
theorem GX (call:Bool) (strike price cZ days:Int) (s0:0<=strike) (s1:strike<=1000000000000) (p0:0<=price) (p1:price<=1200000000000) (v0:0<=cZ) (v1:cZ<=62500) (d0:-100000<=days) (d1:days<=100000) (w:World) :
 Calls Tryz.prog 131 #[.bool call,.int .i64 strike,.int .i64 price,.int .i64 cZ,.int .i64 days] w fun e w'=>e=.returned (.tuple #[.int .i64 (valueA call strike price cZ days).1,.int .i64 0])/\Below w.heap.size w w':=by
 obtain⟨R,hR⟩:=Zn ((valueA call strike price cZ days).1);rw[<-hR];have EQ:=zq hR;have I1:=zq (fun W=>kX strike s0 (by omega) W);have I2:=zq (fun W=>kX price p0 (by omega) W);have I3:=zq (fun W=>kX cZ v0 (by omega) W);clear hR;obtain⟨gap,hgap⟩:=Zn (if call=true then price - strike else strike - price);have GA:=zq hgap;have gb:-1200000000000<=gap/\gap<=1200000000000:=by rw[hgap];split <;> omega
 have gn:(price - strike).natAbs=gap.natAbs:=by rw[hgap];split <;> omega
 have GN:=zq gn;obtain⟨gb0,gb1⟩:=gb;clear gn;by_cases hd:days<=0
 ·have RG:=zq (show R=max gap 0 from by rw[EQ.o];unfold valueA;rw[if_neg (by omega),if_pos hd,<-GA.o]);clear GN EQ;by_cases hg0:gap<0
  ·have EG:=zq (show R=0 from by rw[RG.o];omega)
   cases call
   all_goals
    have e0:=GA.o
    first|rw[if_neg (by decide)] at e0|rw[if_pos rfl] at e0
    clear hgap GA;subst e0
    go_enter Tryz.func131,Tryz.ntmps131
    go_wp2_with fail
    refine (I1.o _).mono ?_;rintro e w' ⟨rfl,rfl⟩
    go_wp2_with fail
    refine (I2.o _).mono ?_;rintro e w' ⟨rfl,rfl⟩
    go_wp2_with fail
    refine (I3.o _).mono ?_;rintro e w' ⟨rfl,rfl⟩
    go_wp2_with fail
    go_ret2;exact⟨by rw[EG.o];first|done|rfl|simp,Below.refl _ _⟩
  have EG:=zq (show R=gap from by rw[RG.o];omega)
  cases call
  all_goals
   have e0:=GA.o
   first|rw[if_neg (by decide)] at e0|rw[if_pos rfl] at e0
   clear hgap GA;subst e0
   go_enter Tryz.func131,Tryz.ntmps131
   go_wp2_with fail
   refine (I1.o _).mono ?_;rintro e w' ⟨rfl,rfl⟩
   go_wp2_with fail
   refine (I2.o _).mono ?_;rintro e w' ⟨rfl,rfl⟩
   go_wp2_with fail
   refine (I3.o _).mono ?_;rintro e w' ⟨rfl,rfl⟩
   go_wp2_with fail
   go_ret2;exact⟨by rw[EG.o];first|done|rfl|simp,Below.refl _ _⟩
 have m1:=qC v0 (show 0<=days by omega) v1 d1;have m0:0<=cZ*days:=Int.mul_nonneg v0 (by omega);have e1:fG cZ days=(cZ*days,0):=by
  rw[lF,if_pos ⟨aF.2 (by omega),aF.2 (by omega),aF.2 (by omega)⟩]
 have m2:=qC s0 m0 s1 (show cZ*days<=6250000000 by omega);obtain⟨e2,h0,h1⟩:=nV strike (cZ*days) 3650000 1800000000000000 s0 m0 (by omega) (by omega) (by omega) (by omega) (by omega) (by omega);have FM:=zq (fun W=>qJ cZ days W);have FD:=zq (fun W=>kK strike (cZ*days) 3650000 0 W);rw[e1] at FM;rw[e2] at FD;have EV:=zq (show valueA call strike price cZ days=dQ (max (if call then price - strike else strike - price) 0) (max (strike*(cZ*days) / 3650000 - ((price - strike).natAbs:Int) / 2) 0) from by
  unfold valueA;rw[if_neg (by omega),if_neg hd,if_neg (by omega),e1,if_neg (by simp)];simp only;rw[e2,if_neg (by simp)])
 obtain⟨M,hM⟩:=Zn (cZ*days);obtain⟨t,ht⟩:=Zn (strike*(cZ*days) / 3650000);rw[<-ht] at h0 h1 FD EV;rw[<-hM] at FM FD;clear hM ht e1 e2 m0 m1 m2;have hd':¬ 100000<days:=by omega
 rw[<-GA.o,GN.o] at EV;obtain⟨A,hA⟩:=Zn (max gap 0);obtain⟨B,hB⟩:=Zn (max (t - (gap.natAbs:Int) / 2) 0);have a0:0<=A/\A<=1200000000000:=by omega
 have b0:0<=B/\B<=1800000000000000:=by omega
 have FA:=zq (fun W=>oq A B W);have ea:dQ A B=(A+B,0):=oC (aF.2 (by omega)) (aF.2 (by omega)) (aF.2 (by omega));rw[ea] at FA;have GV:=zq (show R=A+B from by rw[EQ.o,EV.o,<-hA,<-hB,ea]);have HA:=zq hA;have HB:=zq hB;clear EV EQ GN hA hB ea a0 b0;by_cases hg0:gap<0
 ·have hA0:=zq (show (0:Int)=A from by have:=HA.o;omega);have q1:Int.tdiv (-gap) 2=-gap / 2:=Int.tdiv_eq_ediv_of_nonneg (by omega);by_cases hm:t - -gap / 2<0
  ·have hB0:=zq (show (0:Int)=B from by have:=HB.o;omega);rw[<-hA0.o,<-hB0.o] at FA GV;clear HA HB hA0 hB0
   cases call
   all_goals
    have e0:=GA.o
    first|rw[if_neg (by decide)] at e0|rw[if_pos rfl] at e0
    clear hgap GA;subst e0
    go_enter Tryz.func131,Tryz.ntmps131
    go_wp2_with fail
    refine (I1.o _).mono ?_;rintro e w' ⟨rfl,rfl⟩
    go_wp2_with fail
    refine (I2.o _).mono ?_;rintro e w' ⟨rfl,rfl⟩
    go_wp2_with fail
    refine (I3.o _).mono ?_;rintro e w' ⟨rfl,rfl⟩
    go_wp2_with fail
    refine (FM.o _).mono ?_;rintro e w1 ⟨rfl,hb⟩;have B1:=zq hb;clear hb
    go_wp2_with fail
    refine (FD.o _).mono ?_;rintro e w2 ⟨rfl,hb⟩;have B2:=zq (B1.o.trans (hb.mono B1.o.size));clear hb
    go_wp2_with fail
    refine (FA.o _).mono ?_;rintro e w3 ⟨rfl,rfl⟩
    go_wp2_with fail
    go_ret2;exact⟨by rw[GV.o];first|done|rfl|simp,B2.o⟩
  have hB0:=zq (show t - -gap / 2=B from by have:=HB.o;omega);rw[<-hA0.o,<-hB0.o] at FA GV;clear HA HB hA0 hB0
  cases call
  all_goals
   have e0:=GA.o
   first|rw[if_neg (by decide)] at e0|rw[if_pos rfl] at e0
   clear hgap GA;subst e0
   go_enter Tryz.func131,Tryz.ntmps131
   go_wp2_with fail
   refine (I1.o _).mono ?_;rintro e w' ⟨rfl,rfl⟩
   go_wp2_with fail
   refine (I2.o _).mono ?_;rintro e w' ⟨rfl,rfl⟩
   go_wp2_with fail
   refine (I3.o _).mono ?_;rintro e w' ⟨rfl,rfl⟩
   go_wp2_with fail
   refine (FM.o _).mono ?_;rintro e w1 ⟨rfl,hb⟩;have B1:=zq hb;clear hb
   go_wp2_with fail
   refine (FD.o _).mono ?_;rintro e w2 ⟨rfl,hb⟩;have B2:=zq (B1.o.trans (hb.mono B1.o.size));clear hb
   go_wp2_with fail
   refine (FA.o _).mono ?_;rintro e w3 ⟨rfl,rfl⟩
   go_wp2_with fail
   go_ret2;exact⟨by rw[GV.o];first|done|rfl|simp,B2.o⟩
 have hA0:=zq (show gap=A from by have:=HA.o;omega);have q1:Int.tdiv gap 2=gap / 2:=Int.tdiv_eq_ediv_of_nonneg (by omega);by_cases hm:t - gap / 2<0
 ·have hB0:=zq (show (0:Int)=B from by have:=HB.o;omega);rw[<-hA0.o,<-hB0.o] at FA GV;clear HA HB hA0 hB0
  cases call
  all_goals
   have e0:=GA.o
   first|rw[if_neg (by decide)] at e0|rw[if_pos rfl] at e0
   clear hgap GA;subst e0
   go_enter Tryz.func131,Tryz.ntmps131
   go_wp2_with fail
   refine (I1.o _).mono ?_;rintro e w' ⟨rfl,rfl⟩
   go_wp2_with fail
   refine (I2.o _).mono ?_;rintro e w' ⟨rfl,rfl⟩
   go_wp2_with fail
   refine (I3.o _).mono ?_;rintro e w' ⟨rfl,rfl⟩
   go_wp2_with fail
   refine (FM.o _).mono ?_;rintro e w1 ⟨rfl,hb⟩;have B1:=zq hb;clear hb
   go_wp2_with fail
   refine (FD.o _).mono ?_;rintro e w2 ⟨rfl,hb⟩;have B2:=zq (B1.o.trans (hb.mono B1.o.size));clear hb
   go_wp2_with fail
   refine (FA.o _).mono ?_;rintro e w3 ⟨rfl,rfl⟩
   go_wp2_with fail
   go_ret2;exact⟨by rw[GV.o];first|done|rfl|simp,B2.o⟩
 have hB0:=zq (show t - gap / 2=B from by have:=HB.o;omega);rw[<-hA0.o,<-hB0.o] at FA GV;clear HA HB hA0 hB0
 cases call
 all_goals
  have e0:=GA.o
  first|rw[if_neg (by decide)] at e0|rw[if_pos rfl] at e0
  clear hgap GA;subst e0
  go_enter Tryz.func131,Tryz.ntmps131
  go_wp2_with fail
  refine (I1.o _).mono ?_;rintro e w' ⟨rfl,rfl⟩
  go_wp2_with fail
  refine (I2.o _).mono ?_;rintro e w' ⟨rfl,rfl⟩
  go_wp2_with fail
  refine (I3.o _).mono ?_;rintro e w' ⟨rfl,rfl⟩
  go_wp2_with fail
  refine (FM.o _).mono ?_;rintro e w1 ⟨rfl,hb⟩;have B1:=zq hb;clear hb
  go_wp2_with fail
  refine (FD.o _).mono ?_;rintro e w2 ⟨rfl,hb⟩;have B2:=zq (B1.o.trans (hb.mono B1.o.size));clear hb
  go_wp2_with fail
  refine (FA.o _).mono ?_;rintro e w3 ⟨rfl,rfl⟩
  go_wp2_with fail
  go_ret2;exact⟨by rw[GV.o];first|done|rfl|simp,B2.o⟩
theorem Kq (i:Ins) (n:Nat) (hi:i.Ok n) (price cZ day:Int) (p0:0<=price) (p1:price<=1200000000000) (v0:0<=cZ) (v1:cZ<=62500) (d0:0<=day) (d1:day<=100000) (w:World) :
 Calls Tryz.prog 93 #[.agg #[.int .i64 i.kind,.int .i64 i.under,.int .i64 i.mult,.int .i64 i.strike,.int .i64 i.aN,.bool i.call,.int .i64 i.mark],.int .i64 price,.int .i64 cZ,.int .i64 day] w fun e w'=>e=.returned (.tuple #[.int .i64 (pK i price cZ day).1,.int .i64 0])/\Below w.heap.size w w':=by
 obtain⟨R,hR⟩:=Zn ((pK i price cZ day).1);rw[<-hR];obtain⟨_,_,_,_,_,_,hk⟩:=hi;have EQ:=zq hR;have I1:=zq (fun W=>kX price p0 (by omega) W);have I2:=zq (fun W=>kX cZ v0 (by omega) W);have B0:=zq ((Below.refl w.heap.size w).alloc (Nat.le_refl _) (.cells #[.int .i64 i.kind,.int .i64 i.under,.int .i64 i.mult,.int .i64 i.strike,.int .i64 i.aN,.bool i.call,.int .i64 i.mark] 66));have g5:¬ day<0:=by omega
 have g6:¬ 100000<day:=by omega
 clear hR;by_cases h3:i.kind=3
 ·have hk3:1<=i.strike/\i.strike<=1000000000000/\1<=i.aN/\i.aN<=100000:=by
   rcases hk with h|h|h
   ·omega
   ·omega
   exact h.2
  obtain⟨s0,s1,e0,e1⟩:=hk3;have VA:=zq (fun W=>GX i.call i.strike price cZ (i.aN - day) (by omega) s1 p0 p1 v0 v1 (by omega) (by omega) W);have EV:=zq (show R=(valueA i.call i.strike price cZ (i.aN - day)).1 from by
   rw[EQ.o];unfold pK;rw[if_neg (by omega),if_neg (by omega),if_neg (by simp[h3]),if_neg (by omega)])
  rw[<-EV.o] at VA;have g1:¬ i.kind<1:=by omega
  have g2:¬ 3<i.kind:=by omega
  have g3:¬ i.kind<3:=by omega
  have g7:¬ i.aN<0:=by omega
  have g8:¬ 100000<i.aN:=by omega
  clear h3 hk
  go_enter Tryz.func93,Tryz.ntmps93
  go_wp2_with fail
  refine (I1.o _).mono ?_;rintro e w' ⟨rfl,rfl⟩
  go_wp2_with fail
  refine (I2.o _).mono ?_;rintro e w' ⟨rfl,rfl⟩
  go_wp2_with fail
  refine (VA.o _).mono ?_;rintro e w' ⟨rfl,hb⟩;have B1:=zq (B0.o.trans (hb.mono (by simp)));clear hb
  go_wp2_with fail
  go_ret2;exact⟨rfl,B1.o⟩
 have RV:=zq (show R=price from by rw[EQ.o];unfold pK;rw[if_neg (by omega),if_neg (by omega),if_pos h3]);have g1:¬ i.kind<1:=by omega
 have g2:¬ 3<i.kind:=by omega
 have g3:i.kind<3:=by omega
 clear h3 hk
 go_enter Tryz.func93,Tryz.ntmps93
 go_wp2_with fail
 refine (I1.o _).mono ?_;rintro e w' ⟨rfl,rfl⟩
 go_wp2_with fail
 refine (I2.o _).mono ?_;rintro e w' ⟨rfl,rfl⟩
 go_wp2_with fail
 go_ret2;exact⟨by rw[RV.o];rfl,B0.o⟩
theorem Rj:(Tryz.prog.info? 191).map (·.size)=some (Array.replicate 21 (Value.int .i64 0)).size:=by rw[Array.size_replicate];exact Qa
theorem Rk:(Array.replicate 21 (Value.int .i64 0)).all (·.oneCell')=true:=by rw[Array.all_eq_true];intro i hi;simp[Value.oneCell']
theorem uI (w:World) (o:Obj) {n:Nat} (h:n=w.heap.size):(w.alloc o).heap[n]?=some o:=by subst h;exact heap_alloc_last w o
theorem DX (w:World) (n:Nat) (c c':Array Value) (t:TypeId) (h:n=w.heap.size):(w.alloc (.cells c t)).setRow n c'=w.alloc (.cells c' t):=by subst h;exact World.setRow_alloc_new _ _ _ _
theorem Ru {s:Nat} (h:s<21):s=0\/s=1\/s=2\/s=3\/s=4\/s=5\/s=6\/s=7\/s=8\/s=9\/s=10\/s=11\/s=12\/s=13\/s=14\/s=15\/s=16\/s=17\/s=18\/s=19\/s=20:=by omega
theorem GH (s:Nat) (hs:s<21) (w:World):Calls Tryz.prog 211 #[.int .i64 (s:Int)] w fun e w'=>e=.returned (.agg #[.int .i64 (jH s),.int .i64 (su s)])/\Below w.heap.size w w':=by
 rcases Ru hs with rfl|rfl|rfl|rfl|rfl|rfl|rfl|rfl|rfl|rfl|rfl|rfl|rfl|rfl|rfl|rfl|rfl|rfl|rfl|rfl|rfl
 all_goals
  clear hs
  go_enter Tryz.func211,Tryz.ntmps211
  go_wp2_with fail
  exact bodyPost_ret (by simp[results,Tryz.results211,go_sem];rfl) rfl ⟨by rfl,Zb⟩
theorem Dw (price cZ:Int) (p0:0<=price) (p1:price<=1000000000000) (v0:0<=cZ) (v1:cZ<=50000) (w:World):Calls Tryz.prog 92 #[.int .i64 price,.int .i64 cZ] w fun e w'=>e=.returned (.bool true)/\w=w':=by
 go_enter Tryz.func92,Tryz.ntmps92
 go_wp2_with fail
 go_ret;refine⟨aj ?_,rfl⟩
 first|rfl|simp
theorem Gx (price cZ:Int) (s:Nat) (hs:s<21) (p0:0<=price) (p1:price<=1000000000000) (v0:0<=cZ) (v1:cZ<=50000) (w:World) :
 Calls Tryz.prog 208 #[.int .i64 price,.int .i64 cZ,.int .i64 (s:Int)] w fun e w'=>e=.returned (.tuple #[.int .i64 (oU price s),.int .i64 (oV cZ s),.int .i64 0])/\Below w.heap.size w w':=by
 have FI:=zq (fun W=>Dw price cZ p0 p1 v0 v1 W);have SH:=zq (fun W=>GH s hs W);have hp:=(nZ p0 p1 s).1;have hv:=(og v0 v1 s).1;have MP:=zq (fun W=>kK price (10000+jH s) 10000 0 W);have MV:=zq (fun W=>kK cZ (10000+su s) 10000 0 W);rw[hp] at MP;rw[hv] at MV;have bs:=uQ s;have bv:=Au s;obtain⟨S,hS⟩:=Zn (jH s);obtain⟨T,hT⟩:=Zn (su s);rw[<-hS] at MP SH bs;rw[<-hT] at MV SH bv;obtain⟨bs0,bs1⟩:=bs;obtain⟨bv0,bv1⟩:=bv;have s0:¬ (s:Int)<0:=by omega
 have s1:¬ 20<(s:Int):=by omega
 have d0:decide ((s:Int)<0)=false:=decide_eq_false s0;have d1:decide (20<(s:Int))=false:=decide_eq_false s1;clear hs hp hv hS hT
 go_enter Tryz.func208,Tryz.ntmps208
 go_wp2_with fail
 refine (FI.o _).mono ?_;rintro e w' ⟨rfl,rfl⟩
 go_wp2_with fail
 refine (SH.o _).mono ?_;rintro e w1 ⟨rfl,hb⟩;have B1:=zq (hb.alloc hb.size (.cells #[.int .i64 S,.int .i64 T] 32));have X1:=zq (aY.new w1 #[.int .i64 S,.int .i64 T] 32);clear hb
 go_wp2_with fail
 refine (MP.o _).mono ?_;rintro e w2 ⟨rfl,hb⟩;have B2:=zq (B1.o.trans (hb.mono B1.o.size));have c1:=(X1.o.below hb).at_ 1 _ rfl;clear hb
 go_wp2_with fail
 refine (MV.o _).mono ?_;rintro e w3 ⟨rfl,hb⟩;have B3:=zq (B2.o.trans (hb.mono B2.o.size));clear hb
 go_wp2_with fail
 go_ret3;exact⟨rfl,B3.o⟩
theorem GU (i:Ins) (u:dX) (n m:Nat) (hi:i.Ok n) (hu:u.Ok m) (day:Int) (d0:0<=day) (d1:day<=100000) (w:World) :
 Calls Tryz.prog 204 #[.agg #[.int .i64 i.kind,.int .i64 i.under,.int .i64 i.mult,.int .i64 i.strike,.int .i64 i.aN,.bool i.call,.int .i64 i.mark],.agg #[.string u.name,.int .i64 u.cur,.int .i64 u.price,.int .i64 u.cZ],.int .i64 day] w fun e w'=>e=.returned (.tuple #[.agg (bI fun s=>(o9 i u day s).1),.int .i64 0])/\Below w.heap.size w w':=by
 have HI:=zq hi;have HU:=zq hu;have D01:=zq (And.intro d0 d1);obtain⟨f,hf⟩:∃ f:Nat->Int,f=fun s=>(o9 i u day s).1:=⟨_,rfl⟩
 rw[<-hf];have EF:=zq hf;clear hi hu hf d0 d1;obtain⟨ci,hci⟩:∃ ci:Array Value,ci=#[.int .i64 i.kind,.int .i64 i.under,.int .i64 i.mult,.int .i64 i.strike,.int .i64 i.aN,.bool i.call,.int .i64 i.mark]:=⟨_,rfl⟩;obtain⟨cu,hcu⟩:∃ cu:Array Value,cu=#[.string u.name,.int .i64 u.cur,.int .i64 u.price,.int .i64 u.cZ]:=⟨_,rfl⟩;have ECI:=zq hci;have ECU:=zq hcu;have START:=zq (show yx w ((((w.alloc (.cells ci 66)).alloc (.cells cu 48)).alloc (.cells (Array.replicate 21 (.int .i64 0)) 191)).alloc (.cells (Array.replicate 21 (.int .i64 0)) 191)) (w.heap.size+1+1) (w.heap.size+1+1+1) ci cu f 0 from by
  have x1:=aY.new w ci 66;have x2:=aY.new (w.alloc (.cells ci 66)) cu 48;have M3:=(Mod.refl (fun _=>False) ((w.alloc (.cells ci 66)).alloc (.cells cu 48))).alloc (.cells (Array.replicate 21 (.int .i64 0)) 191);have M4:=M3.alloc (.cells (Array.replicate 21 (.int .i64 0)) 191);have M2:=(Mod.refl (fun _=>False) (w.alloc (.cells ci 66))).alloc (.cells cu 48);have h3:=heap_alloc_new ((w.alloc (.cells ci 66)).alloc (.cells cu 48)) (.cells (Array.replicate 21 (.int .i64 0)) 191);have h4:=heap_alloc_new (((w.alloc (.cells ci 66)).alloc (.cells cu 48)).alloc (.cells (Array.replicate 21 (.int .i64 0)) 191)) (.cells (Array.replicate 21 (.int .i64 0)) 191);refine⟨(x1.mod M2 (fun h=>h)).mod M4 (fun h=>h),by have:=x2.mod M4 (fun h=>h);simpa using this,⟨_,(((Mod.refl (fun _=>False) _).alloc (.cells (Array.replicate 21 (.int .i64 0)) 191)).heap (by simpa using h3) (fun h=>h)),by simp⟩,⟨_,by simpa using h4,by simp,fun j hj=>by omega⟩,?_⟩;exact ((((Below.refl _ w).alloc (Nat.le_refl _) _).alloc (by simp) _).alloc (by simp;omega) _).alloc (by simp;omega) _)
 rw[hci,hcu] at START;clear hci hcu
 go_enter Tryz.func204,Tryz.ntmps204
 go_wp2_with (refine wpList_store_row rfl 191 (.tmp 8) (.tmp 14) rfl (w.heap.size+1+1+1) (Array.replicate 21 (.int .i64 0)) (by rfl) rfl 191 _ (by first|exact uI _ _ (by simp)|(rw[show w.heap.size+1+1+1=(((w.alloc _).alloc _).alloc _).heap.size from by simp];exact heap_alloc_last _ _)) Rj (by simp) Rk ?_;rw[DX _ _ _ _ _ (by simp)])
 obtain⟨W,hW⟩:=Zn (((((w.alloc (.cells #[.int .i64 i.kind,.int .i64 i.under,.int .i64 i.mult,.int .i64 i.strike,.int .i64 i.aN,.bool i.call,.int .i64 i.mark] 66)).alloc (.cells #[.string u.name,.int .i64 u.cur,.int .i64 u.price,.int .i64 u.cZ] 48)).alloc (.cells (Array.replicate 21 (.int .i64 0)) 191)).alloc (.cells (Array.replicate 21 (.int .i64 0)) 191)));have hW2:=hW
 simp only[show Array.replicate 21 (Value.int .i64 0)=#[.int .i64 0,.int .i64 0,.int .i64 0,.int .i64 0,.int .i64 0,.int .i64 0,.int .i64 0,.int .i64 0,.int .i64 0,.int .i64 0,.int .i64 0,.int .i64 0,.int .i64 0,.int .i64 0,.int .i64 0,.int .i64 0,.int .i64 0,.int .i64 0,.int .i64 0,.int .i64 0,.int .i64 0] from rfl] at hW2 ⊢
 rw[<-hW2];rw[<-hW,<-ECI.o,<-ECU.o] at START;clear hW hW2;obtain⟨H8,h8⟩:=Zn (w.heap.size+1+1+1);obtain⟨H6,h6⟩:=Zn (w.heap.size+1+1);rw[<-h8,<-h6] at START ⊢;have H68:=zq (show H6=w.heap.size+2/\H8=w.heap.size+3 from by omega);clear h8 h6
 go_loopw [9] (fun i wr=>∃ k:Nat,k<=21/\i=.int .i64 k/\yx w wr H6 H8 ci cu f k) (fun i _=>21 - (intOf i).toNat)
 case atStart=>exact⟨0,by omega,rfl,START.o⟩
 obtain⟨k,hk,rfl,hU⟩:=hrel;have UU:=zq hU;clear hU;by_cases hlt:k<21
 ·have hlt':(k:Int)<21:=by omega
  have k0:(0:Int)<=(k:Int):=by omega
  have LT:=zq hlt;have c2:wr.cell? ⟨w.heap.size+1,2,none⟩=some (.int .i64 u.price):=UU.o.bu.at_ 2 _ (by rw[ECU.o];rfl);have c3:wr.cell? ⟨w.heap.size+1,3,none⟩=some (.int .i64 u.cZ):=UU.o.bu.at_ 3 _ (by rw[ECU.o];rfl);obtain⟨_,_,_,q0,q1,r0,r1⟩:=HU.o;have PT:=zq (Gx u.price u.cZ k hlt (by omega) q1 r0 r1 wr);clear q0 q1 r0 r1 hk hlt
  go_wp2_with fail
  refine PT.o.mono ?_;rintro e w1 ⟨rfl,hb⟩;have U1:=zq (UU.o.below hb);clear hb c2 c3;have i0:w1.cell? ⟨w.heap.size,0,none⟩=some (.int .i64 i.kind):=U1.o.bi.at_ 0 _ (by rw[ECI.o];rfl);have i1:w1.cell? ⟨w.heap.size,1,none⟩=some (.int .i64 i.under):=U1.o.bi.at_ 1 _ (by rw[ECI.o];rfl);have i2:w1.cell? ⟨w.heap.size,2,none⟩=some (.int .i64 i.mult):=U1.o.bi.at_ 2 _ (by rw[ECI.o];rfl);have i3:w1.cell? ⟨w.heap.size,3,none⟩=some (.int .i64 i.strike):=U1.o.bi.at_ 3 _ (by rw[ECI.o];rfl);have i4:w1.cell? ⟨w.heap.size,4,none⟩=some (.int .i64 i.aN):=U1.o.bi.at_ 4 _ (by rw[ECI.o];rfl);have i5:w1.cell? ⟨w.heap.size,5,none⟩=some (.bool i.call):=U1.o.bi.at_ 5 _ (by rw[ECI.o];rfl);have i6:w1.cell? ⟨w.heap.size,6,none⟩=some (.int .i64 i.mark):=U1.o.bi.at_ 6 _ (by rw[ECI.o];rfl)
  go_wp2_with fail
  clear i0 i1 i2 i3 i4 i5 i6;have UN:=zq (show Calls Tryz.prog 93 #[.agg #[.int .i64 i.kind,.int .i64 i.under,.int .i64 i.mult,.int .i64 i.strike,.int .i64 i.aN,.bool i.call,.int .i64 i.mark],.int .i64 (oU u.price k),.int .i64 (oV u.cZ k),.int .i64 day] w1 fun e w'=>e=.returned (.tuple #[.int .i64 (f k),.int .i64 0])/\Below w1.heap.size w1 w' from by
   obtain⟨_,_,_,q0,q1,r0,r1⟩:=HU.o;have hp:=nZ (show 0<=u.price by omega) q1 k;have hv:=og r0 r1 k;rw[EF.o];exact Kq i n HI.o _ _ day hp.2.1 hp.2.2 hv.2.1 hv.2.2 D01.o.1 D01.o.2 w1)
  refine UN.o.mono ?_;rintro e w2 ⟨rfl,hb⟩;have U2:=zq (U1.o.below hb);clear hb;obtain⟨A,ha,as1,as2⟩:=U2.o.arr;obtain⟨y,hy⟩:∃ y,A[k]?=some y:=⟨_,Array.getElem?_eq_getElem (by have:=LT.o;omega)⟩;have a0:w2.cell? ⟨H8,k,none⟩=some y:=(cell_of_heap ha k).trans hy;have z0:=aP ha k;clear ha as1 as2 hy
  go_wp2_with fail
  have U3:=zq (U2.o.next H68.o LT.o (f k) rfl);go_roundw
  case rel=>exact⟨k+1,by have:=LT.o;omega,by go_num,U3.o⟩
  case measure=>have:=LT.o;simp[intOf];omega
 have hlt':¬ (k:Int)<21:=by omega
 obtain⟨A,ha,as1,as2⟩:=UU.o.arr;obtain⟨Z,hz,zs⟩:=UU.o.res;obtain rfl:k=21:=by omega
 have EA:A=bI f:=uU as1 as2;subst EA;have HA:=zq ha;have HZ:=zq hz;have ZS:=zq zs;clear hlt hk as1 as2 ha hz zs hlt'
 go_wp2_with (first|(refine wpList_load_row rfl 191 (.tmp 8) rfl H8 rfl 191 _ (0,0) (.array 21 3) HA.o yj.o rfl (ou f).o ?_)|(refine wpList_store_row rfl 191 (.tmp 6) (.tmp 48) rfl H6 (bI f) rfl rfl 191 _ HZ.o (ou f).o ZS.o (fM f) ?_))
 have hg:(wr.setRow H6 (bI f)).heap[H6]?=some (.cells (bI f) 191 (0,0)):=setRow_heap _ _ _ _ _ _ HZ.o;refine bodyPost_ret (jr (q:=7) rfl _ _ H6 191 (bI f) (0,0) _ rfl hg yj.o rfl (ou f).o) rfl ⟨by rfl,?_⟩;exact below_setRow UU.o.low (by have:=H68.o;omega) _
end Go.Proofs.YtcepekniflaoaaaGreatDoor
namespace Go.Proofs.YtcepekniflaoaaaGreatDoor
open Go.RowKit Go.Bw Go.Maps Go.Shelf Go.Bw.Fall
theorem Du {r:Int×Int} (h:r.2=0/\aO r.1=true\/r=(0,4)):retA (iG r)=r:=by
 rcases h with h|h
 ·unfold iG;rw[if_pos h.1];show (r.1,(0:Int))=r;rw[<-h.1]
 rw[h];rfl
theorem JY (w:World) (V:aB) (L:aH) (h:bK w V L) (hg:L.Good) (j:Nat) (hj:j<L.af.length) (s:Nat) (hs:s<21) (qty frm:Int)
 (q0:-1000000000<=qty) (q1:qty<=1000000000) (f0:0<=frm) (f1:frm<=100000000000000) :
 Calls Tryz.prog 194 #[V.val L,.int .i64 (j:Int),.int .i64 qty,.int .i64 (s:Int),.int .i64 frm] w fun e w'=>e=.returned (.tuple #[.int .i64 (retA (jI L j qty s frm)).1,.int .i64 (retA (jI L j qty s frm)).2])/\Below w.heap.size w w':=by
 have HL:=zq h;have HG:=zq hg;have HJ:=zq hj;have S21:=zq hs;obtain⟨x,hx⟩:∃ x,L.af[j]?=some x:=⟨_,List.getElem?_eq_getElem hj⟩;have EX:=zq (show L.ins (j:Int)=x from by unfold aH.ins;simp[hx]);have hok:=hg.things.af x (List.mem_of_getElem? hx);obtain⟨u,hu⟩:∃ u:Nat,x.under=u:=⟨x.under.toNat,by have:=hok.1;omega⟩;have hul:u<L.ah.length:=by have:=hok.2.1;omega
 obtain⟨y,hy⟩:∃ y,L.ah[u]?=some y:=⟨_,List.getElem?_eq_getElem hul⟩;have EY:=zq (show L.und (u:Int)=y from by unfold aH.und;simp[hy]);have uk:=(hg.IW (n:=(j:Int)) (by omega) (by omega) s).2;obtain⟨U,hU⟩:=Zn (L.unit j s);rw[<-hU] at uk;have GO:=zq (show jI L j qty s frm=iG (fG (qty*x.mult) (U - frm)) from by unfold jI Ns;rw[EX.o,hU]);rw[GO.o];have m0:=hok.2.2.1;have m1:=hok.2.2.2.1;have qm:-1000000000000000<=qty*x.mult/\qty*x.mult<=1000000000000000:=by
  constructor
  ·have:=Int.mul_le_mul_of_nonneg_right q0 (show 0<=x.mult by omega);have:=Int.mul_le_mul_of_nonneg_left m1 (show (0:Int)<=1000000000 by omega);omega
  have:=Int.mul_le_mul_of_nonneg_right q1 (show 0<=x.mult by omega);omega
 have SU:=zq (show ∀ W,Calls Tryz.prog 36 #[.int .i64 U,.int .i64 frm] W fun e w'=>e=.returned (.tuple #[.int .i64 (U - frm),.int .i64 0])/\W=w' from fun W=>by
  have h:=qK U frm W;rw[show fK U frm=(U - frm,0) from by unfold fK;rw[if_pos ⟨aF.2 (by omega),aF.2 (by omega),aF.2 (by omega)⟩]] at h;exact h)
 have QM:=zq (show ∀ W,Calls Tryz.prog 82 #[.int .i64 qty,.int .i64 x.mult] W fun e w'=>e=.returned (.tuple #[.int .i64 (qty*x.mult),.int .i64 0])/\Below W.heap.size W w' from fun W=>by
  have h:=qJ qty x.mult W;rw[show fG qty x.mult=(qty*x.mult,0) from by rw[lF,if_pos ⟨aF.2 (by omega),aF.2 (by omega),aF.2 (by omega)⟩]] at h;exact h)
 obtain⟨D,hD⟩:=Zn (U - frm);obtain⟨Q,hQ⟩:=Zn (qty*x.mult);rw[<-hD] at SU ⊢;rw[<-hQ] at QM ⊢;rw[Du (jW Q D)];have MM:=zq (fun W=>qJ Q D W);obtain⟨MR,hMR⟩:=Zn (fG Q D);rw[<-hMR] at MM ⊢;obtain⟨f,hf⟩:∃ f:Nat->Int,f=fun s=>L.unit j s:=⟨_,rfl⟩
 have UF:=zq (show f s=U from by rw[hf,hU]);have UC:=zq (show ∀ W:World,Calls Tryz.prog 204 #[.agg #[.int .i64 x.kind,.int .i64 (u:Int),.int .i64 x.mult,.int .i64 x.strike,.int .i64 x.aN,.bool x.call,.int .i64 x.mark],.agg #[.string y.name,.int .i64 y.cur,.int .i64 y.price,.int .i64 y.cZ],.int .i64 L.day] W fun e w'=>e=.returned (.tuple #[.agg (bI f),.int .i64 0])/\Below W.heap.size W w' from by
  intro W;have h1:=HG.o.things.af x (List.mem_of_getElem? hx);have h2:=HG.o.things.ah u y hy;have:=GU x y _ _ h1 h2 L.day HG.o.d0 HG.o.d1 W;rw[hu] at this;rw[hf];have e:(fun s=>L.unit (j:Int) s)=(fun s=>(o9 x y L.day s).1):=by
   funext s;unfold aH.unit;rw[EX.o,hu,EY.o]
  rw[e];exact this)
 obtain⟨a1,c1,a2,c2,a3,c3,a4,c4,a5,c5,a6,c6,a7,c7,a8,c8,e1,e2,e3,e4,e5,e6,e7,e8⟩:=bK.opened h;have r3:=h.af;have r2:=h.ah;rw[e3] at r3;rw[e2] at r2;obtain⟨ib,io,rfl,ibl,ic⟩:=r3.at_ hx;obtain⟨ub,uo,rfl,ubl,uc⟩:=r2.at_ hy;unfold aB.val aB.cells;rw[e1,e2,e3,e4,e5,e6,e7,e8];obtain⟨n1,hn1⟩:=Zn L.aQ.length;obtain⟨n2,hn2⟩:=Zn L.ah.length;obtain⟨n3,hn3⟩:=Zn L.af.length;obtain⟨n4,hn4⟩:=Zn L.ai.length;obtain⟨n5,hn5⟩:=Zn L.au.length;obtain⟨n6,hn6⟩:=Zn L.orders.length;obtain⟨n7,hn7⟩:=Zn L.aG.length;obtain⟨n8,hn8⟩:=Zn L.aJ.length;rw[<-hn1,<-hn2,<-hn3,<-hn4,<-hn5,<-hn6,<-hn7,<-hn8];have jn:(j:Int)<n3:=by omega
 have un:(u:Int)<n2:=by omega
 have j0:(0:Int)<=(j:Int):=by omega
 have u0:(0:Int)<=(u:Int):=by omega
 have s0:(0:Int)<=(s:Int):=by omega
 have s1:(s:Int)<21:=by omega
 obtain⟨LB,hLB⟩:∃ LB:Array Value,LB=#[.int .i64 L.day,.slice a1 n1 c1,.slice (some ⟨ub,uo,none⟩) n2 c2,.slice (some ⟨ib,io,none⟩) n3 c3,.slice a4 n4 c4,.slice a5 n5 c5,.slice a6 n6 c6,.slice a7 n7 c7,.slice a8 n8 c8]:=⟨_,rfl⟩;have ELB:=zq hLB;obtain⟨W1,hW1⟩:=Zn (w.alloc (.cells #[.int .i64 L.day,.slice a1 n1 c1,.slice (some ⟨ub,uo,none⟩) n2 c2,.slice (some ⟨ib,io,none⟩) n3 c3,.slice a4 n4 c4,.slice a5 n5 c5,.slice a6 n6 c6,.slice a7 n7 c7,.slice a8 n8 c8] 31));have X1:=zq (show Below w.heap.size w W1/\aY W1 w.heap.size LB from by rw[hW1,hLB];exact⟨Zb,aY.new _ _ _⟩);have IC:=zq (show ∀ W,Below w.heap.size w W->W.cell? ⟨ib,io+j*7,none⟩=some (.int .i64 x.kind)/\W.cell? ⟨ib,io+j*7+1,none⟩=some (.int .i64 (u:Int))/\W.cell? ⟨ib,io+j*7+2,none⟩=some (.int .i64 x.mult)/\W.cell? ⟨ib,io+j*7+3,none⟩=some (.int .i64 x.strike)/\W.cell? ⟨ib,io+j*7+4,none⟩=some (.int .i64 x.aN)/\W.cell? ⟨ib,io+j*7+5,none⟩=some (.bool x.call)/\W.cell? ⟨ib,io+j*7+6,none⟩=some (.int .i64 x.mark) from fun W hb=>by
  have g:=fun j u hu=>(Mod.of_below hb).cell (ic j u hu) (fun h=>h)
  exact⟨g 0 _ rfl,by rw[<-hu];exact g 1 _ rfl,g 2 _ rfl,g 3 _ rfl,g 4 _ rfl,g 5 _ rfl,g 6 _ rfl⟩)
 have UCC:=zq (show ∀ W,Below w.heap.size w W->W.cell? ⟨ub,uo+u*4,none⟩=some (.string y.name)/\W.cell? ⟨ub,uo+u*4+1,none⟩=some (.int .i64 y.cur)/\W.cell? ⟨ub,uo+u*4+2,none⟩=some (.int .i64 y.price)/\W.cell? ⟨ub,uo+u*4+3,none⟩=some (.int .i64 y.cZ) from fun W hb=>by
  have g:=fun j u hu=>(Mod.of_below hb).cell (uc j u hu) (fun h=>h)
  exact⟨g 0 _ rfl,g 1 _ rfl,g 2 _ rfl,g 3 _ rfl⟩)
 obtain⟨i0,i1,i2,i3,i4,i5,i6⟩:=IC.o W1 X1.o.1;have d3:W1.cell? ⟨w.heap.size,3,none⟩=some (.slice (some ⟨ib,io,none⟩) n3 c3):=X1.o.2.at_ 3 _ (by rw[hLB];rfl);clear h hg hj hs hx hok hu hul hy uk hU m0 m1 qm q0 q1 f0 f1 hD hQ hMR hf e1 e2 e3 e4 e5 e6 e7 e8 r3 r2 ic uc ibl ubl hn1 hn2 hn3 hn4 hn5 hn6 hn7 hn8 hLB
 go_enter Tryz.func194,Tryz.ntmps194
 go_upto_region 1 with (fail)
 rw[<-hW1];obtain⟨hb,hhb⟩:=Zn w.heap.size;rw[<-hhb] at d3 ⊢;have XB:=zq (show aY W1 hb LB from by rw[hhb];exact X1.o.2);clear hW1 hhb
 go_upto_region 2 with (fail)
 clear i0 i1 i2 i3 i4 i5 i6 d3;obtain⟨W2,hW2⟩:=Zn (W1.alloc (.cells #[.int .i64 x.kind,.int .i64 (u:Int),.int .i64 x.mult,.int .i64 x.strike,.int .i64 x.aN,.bool x.call,.int .i64 x.mark] 66));obtain⟨b12,hb12⟩:=Zn W1.heap.size;have X2:=zq (show Below w.heap.size w W2/\aY W2 hb LB/\aY W2 b12 #[.int .i64 x.kind,.int .i64 (u:Int),.int .i64 x.mult,.int .i64 x.strike,.int .i64 x.aN,.bool x.call,.int .i64 x.mark] from by
  rw[hW2,hb12];have b:=(Below.refl W1.heap.size W1).alloc (Nat.le_refl _) (.cells #[.int .i64 x.kind,.int .i64 (u:Int),.int .i64 x.mult,.int .i64 x.strike,.int .i64 x.aN,.bool x.call,.int .i64 x.mark] 66);exact⟨X1.o.1.trans (b.mono X1.o.1.size),XB.o.below b,aY.new _ _ _⟩)
 rw[<-hW2,<-hb12];clear hW2 hb12 X1 XB;have CL:=zq (show ∀ z:dh (fun W=>Below W2.heap.size W2 W),Below w.heap.size w z.w/\aY z.w hb LB/\aY z.w b12 #[.int .i64 x.kind,.int .i64 (u:Int),.int .i64 x.mult,.int .i64 x.strike,.int .i64 x.aN,.bool x.call,.int .i64 x.mark] from fun z=>⟨X2.o.1.trans (z.ok.mono X2.o.1.size),X2.o.2.1.below z.ok,X2.o.2.2.below z.ok⟩);have d0:∀ z:dh (fun W=>Below W2.heap.size W2 W),z.w.cell? ⟨hb,0,none⟩=some (.int .i64 L.day):=fun z=>(CL.o z).2.1.at_ 0 _ (by rw[ELB.o];rfl)
 have d2:∀ z:dh (fun W=>Below W2.heap.size W2 W),z.w.cell? ⟨hb,2,none⟩=some (.slice (some ⟨ub,uo,none⟩) n2 c2):=fun z=>(CL.o z).2.1.at_ 2 _ (by rw[ELB.o];rfl)
 have q0:∀ z:dh (fun W=>Below W2.heap.size W2 W),z.w.cell? ⟨ub,uo+u*4,none⟩=some (.string y.name):=fun z=>(UCC.o z.w (CL.o z).1).1
 have q1:∀ z:dh (fun W=>Below W2.heap.size W2 W),z.w.cell? ⟨ub,uo+u*4+1,none⟩=some (.int .i64 y.cur):=fun z=>(UCC.o z.w (CL.o z).1).2.1
 have q2:∀ z:dh (fun W=>Below W2.heap.size W2 W),z.w.cell? ⟨ub,uo+u*4+2,none⟩=some (.int .i64 y.price):=fun z=>(UCC.o z.w (CL.o z).1).2.2.1
 have q3:∀ z:dh (fun W=>Below W2.heap.size W2 W),z.w.cell? ⟨ub,uo+u*4+3,none⟩=some (.int .i64 y.cZ):=fun z=>(UCC.o z.w (CL.o z).1).2.2.2
 have r0:∀ z:dh (fun W=>Below W2.heap.size W2 W),z.w.cell? ⟨b12,0,none⟩=some (.int .i64 x.kind):=fun z=>(CL.o z).2.2.at_ 0 _ rfl
 have r1:∀ z:dh (fun W=>Below W2.heap.size W2 W),z.w.cell? ⟨b12,1,none⟩=some (.int .i64 (u:Int)):=fun z=>(CL.o z).2.2.at_ 1 _ rfl
 have r2:∀ z:dh (fun W=>Below W2.heap.size W2 W),z.w.cell? ⟨b12,2,none⟩=some (.int .i64 x.mult):=fun z=>(CL.o z).2.2.at_ 2 _ rfl
 have r3:∀ z:dh (fun W=>Below W2.heap.size W2 W),z.w.cell? ⟨b12,3,none⟩=some (.int .i64 x.strike):=fun z=>(CL.o z).2.2.at_ 3 _ rfl
 have r4:∀ z:dh (fun W=>Below W2.heap.size W2 W),z.w.cell? ⟨b12,4,none⟩=some (.int .i64 x.aN):=fun z=>(CL.o z).2.2.at_ 4 _ rfl
 have r5:∀ z:dh (fun W=>Below W2.heap.size W2 W),z.w.cell? ⟨b12,5,none⟩=some (.bool x.call):=fun z=>(CL.o z).2.2.at_ 5 _ rfl
 have r6:∀ z:dh (fun W=>Below W2.heap.size W2 W),z.w.cell? ⟨b12,6,none⟩=some (.int .i64 x.mark):=fun z=>(CL.o z).2.2.at_ 6 _ rfl
 refine aX (C:=fun w'=>∃ z:dh (fun W=>Below W2.heap.size W2 W),w'=z.w) [9,13,14] [0,1,2,3,4,5,6,7,8,10,11,12] (.step 0 (.step 1 (.step 2 (.step 3 (.step 4 (.step 5 (.step 6 (.step 7 (.step 8 (.fork 9 (.step 10 (.step 11 (.step 12 (.step 13 (.step 14 (.step 15 .leaf)))))) 13 (.step 9 (.step 10 (.step 11 (.step 12 (.step 14 (.step 15 .leaf)))))))))))))))) (fun _ _ _=>False) (by kernel_rfl) (fun _ _ _ h=>h.elim) (by kernel_rfl) ⟨⟨W2.drew,((Mod.refl (fun _=>False) W2).drew).aU⟩,rfl⟩ ?_
 haveI ne:Nonempty (dh (fun W=>Below W2.heap.size W2 W)):=⟨⟨W2,Below.refl _ _⟩⟩
 refine bM [0,1,2,3,4,5,6,7,8] (by kernel_rfl) ?_
 simp only[ay,nth]
 repeat (go_big_quiet_step (fail))
 refine wpQuiet_nil ?_;clear d0 d2 q0 q1 q2 q3 r0 r1 r2 r3 r4 r5 r6;refine lQ ?_ ?_
 ·refine aK (by kernel_rfl) rfl (fun K hK=>?_)
  simp only[ay,nth]
  refine aA ?_;go_simp;refine (UC.o _).mono ?_;rintro e w3 ⟨rfl,hb3⟩;have B3:=zq (show Below W2.heap.size W2 w3 from ((Mod.refl (fun _=>False) W2).drew.trans (T:=fun _=>False) (Mod.of_below hb3) (fun _ _ h=>h.elim)).aU);clear hb3;go_simp;refine hK _ _ ⟨⟨w3,B3.o⟩,rfl⟩ ?_;clear hK;refine bM [10,11,12] (by kernel_rfl) ?_
  simp only[ay,nth]
  repeat (go_big_quiet_step (fail))
  refine wpQuiet_nil ?_;refine aK (by kernel_rfl) rfl (fun K hK=>?_)
  simp only[ay,nth]
  refine aA ?_;go_simp;refine hK _ _ ⟨⟨_,B3.o.alloc B3.o.size _⟩,rfl⟩ ?_;clear hK;refine aK (by kernel_rfl) rfl (fun K hK=>?_)
  simp only[ay,nth]
  refine aA ?_;refine wp_store_row 191 (.tmp 13) (.tmp 33) rfl w3.heap.size (bI f) rfl rfl 191 _ (heap_alloc_last _ _) (ou f).o (by rw[fA];rfl) (fM f) ?_;rw[World.setRow_alloc_new];go_simp;refine hK _ _ ⟨⟨_,B3.o.alloc B3.o.size _⟩,rfl⟩ ?_;clear hK;refine aC [15] (by kernel_rfl) ?_
  simp only[ay,nth]
  repeat (go_big_quiet_step (fail))
  refine wpQuiet_nil ?_;refine bH ?_;obtain⟨W3,hW3⟩:=Zn (w3.alloc (.cells (bI f) 191));obtain⟨b13,hb13⟩:=Zn w3.heap.size;have T3:=zq (show Below W2.heap.size W2 W3/\W3.heap[b13]?=some (.cells (bI f) 191 (0,0)) from by
   rw[hW3,hb13];exact⟨B3.o.alloc B3.o.size _,heap_alloc_last _ _⟩)
  rw[<-hW3,<-hb13];clear hW3 hb13 B3;have X3:=zq (show Below w.heap.size w W3/\aY W3 b12 #[.int .i64 x.kind,.int .i64 (u:Int),.int .i64 x.mult,.int .i64 x.strike,.int .i64 x.aN,.bool x.call,.int .i64 x.mark] from ⟨X2.o.1.trans (T3.o.1.mono X2.o.1.size),X2.o.2.2.below T3.o.1⟩);have g13:W3.cell? ⟨b13,s,none⟩=some (.int .i64 U):=by rw[cell_of_heap T3.o.2,kG f S21.o,UF.o]
  have g12:W3.cell? ⟨b12,2,none⟩=some (.int .i64 x.mult):=X3.o.2.at_ 2 _ rfl
  go_wp2_with fail
  refine (SU.o _).mono ?_;rintro e w' ⟨rfl,rfl⟩
  go_wp2_with fail
  refine (QM.o _).mono ?_;rintro e w4 ⟨rfl,hb4⟩;have B4:=zq (X3.o.1.trans (hb4.mono X3.o.1.size));clear hb4 g13 g12
  go_wp2_with fail
  refine (MM.o _).mono ?_;rintro e w5 ⟨rfl,hb5⟩;have B5:=zq (B4.o.trans (hb5.mono B4.o.size));clear hb5
  go_wp2_with fail
  go_ret2;exact⟨rfl,B5.o⟩
 refine aK (by kernel_rfl) rfl (fun K hK=>?_)
 simp only[ay,nth]
 refine aA ?_;go_simp;refine hK _ _ ⟨⟨_,(((Mod.refl (fun _=>False) W2).alloc _).drew).aU⟩,rfl⟩ ?_;clear hK;obtain⟨WA,hWA⟩:=Zn ((W2.alloc (.cells (Array.replicate 21 (.int .i64 0)) 191)).drew);have BA:=zq (show Below W2.heap.size W2 WA/\WA.heap[W2.heap.size]?=some (.cells (Array.replicate 21 (.int .i64 0)) 191 (0,0))/\W2.heap.size<WA.heap.size from by rw[hWA];exact⟨(((Mod.refl (fun _=>False) W2).alloc _).drew).aU,heap_alloc_last W2 _,by show W2.heap.size<(W2.heap.push _).size;simp⟩)
 simp only[show Array.replicate 21 (Value.int .i64 0)=#[.int .i64 0,.int .i64 0,.int .i64 0,.int .i64 0,.int .i64 0,.int .i64 0,.int .i64 0,.int .i64 0,.int .i64 0,.int .i64 0,.int .i64 0,.int .i64 0,.int .i64 0,.int .i64 0,.int .i64 0,.int .i64 0,.int .i64 0,.int .i64 0,.int .i64 0,.int .i64 0,.int .i64 0] from rfl] at hWA
 rw[<-hWA];clear hWA;refine aK (by kernel_rfl) rfl (fun K hK=>?_)
 simp only[ay,nth]
 refine aA ?_;go_simp;refine (UC.o _).mono ?_;rintro e w3 ⟨rfl,hb3⟩;have B3:=zq (show Below W2.heap.size W2 w3/\w3.heap[W2.heap.size]?=some (.cells (Array.replicate 21 (.int .i64 0)) 191 (0,0)) from ⟨BA.o.1.trans (hb3.mono (by have:=BA.o.2.2;omega)),(Mod.of_below hb3).heap BA.o.2.1 (fun h=>h)⟩);clear hb3;go_simp;refine hK _ _ ⟨⟨w3,B3.o.1⟩,rfl⟩ ?_;clear hK;refine bM [10,11,12] (by kernel_rfl) ?_
 simp only[ay,nth]
 repeat (go_big_quiet_step (fail))
 refine wpQuiet_nil ?_;refine aK (by kernel_rfl) rfl (fun K hK=>?_)
 simp only[ay,nth]
 refine aA ?_;refine wp_store_row 191 (.tmp 13) (.tmp 33) rfl W2.heap.size (bI f) rfl rfl 191 _ B3.o.2 (ou f).o (by rw[fA];simp) (fM f) ?_;go_simp;refine hK _ _ ⟨⟨_,below_setRow B3.o.1 (Nat.le_refl _) _⟩,rfl⟩ ?_;clear hK;refine aC [15] (by kernel_rfl) ?_
 simp only[ay,nth]
 repeat (go_big_quiet_step (fail))
 refine wpQuiet_nil ?_;refine bH ?_;obtain⟨W3,hW3⟩:=Zn (w3.setRow W2.heap.size (bI f));obtain⟨b13,hb13⟩:=Zn W2.heap.size;have T3:=zq (show Below W2.heap.size W2 W3/\W3.heap[b13]?=some (.cells (bI f) 191 (0,0)) from by
  rw[hW3,hb13];exact⟨below_setRow B3.o.1 (Nat.le_refl _) _,setRow_heap _ _ _ _ _ _ B3.o.2⟩)
 rw[<-hW3,<-hb13];clear hW3 hb13 B3 BA;have X3:=zq (show Below w.heap.size w W3/\aY W3 b12 #[.int .i64 x.kind,.int .i64 (u:Int),.int .i64 x.mult,.int .i64 x.strike,.int .i64 x.aN,.bool x.call,.int .i64 x.mark] from ⟨X2.o.1.trans (T3.o.1.mono X2.o.1.size),X2.o.2.2.below T3.o.1⟩);have g13:W3.cell? ⟨b13,s,none⟩=some (.int .i64 U):=by rw[cell_of_heap T3.o.2,kG f S21.o,UF.o]
 have g12:W3.cell? ⟨b12,2,none⟩=some (.int .i64 x.mult):=X3.o.2.at_ 2 _ rfl
 go_wp2_with fail
 refine (SU.o _).mono ?_;rintro e w' ⟨rfl,rfl⟩
 go_wp2_with fail
 refine (QM.o _).mono ?_;rintro e w4 ⟨rfl,hb4⟩;have B4:=zq (X3.o.1.trans (hb4.mono X3.o.1.size));clear hb4 g13 g12
 go_wp2_with fail
 refine (MM.o _).mono ?_;rintro e w5 ⟨rfl,hb5⟩;have B5:=zq (B4.o.trans (hb5.mono B4.o.size));clear hb5
 go_wp2_with fail
 go_ret2;exact⟨rfl,B5.o⟩
end Go.Proofs.YtcepekniflaoaaaGreatDoor
namespace Go.Proofs.YtcepekniflaoaaaGreatDoor
open Go.RowKit Go.Bw Go.Maps Go.Shelf
theorem DR (w:World) (vv:Value) (v u:Int) (l:List Int) (hf:∃ a n c,vv=.slice a n c) (hA:Calls Tryz.prog 203 #[vv,.int .i64 v] w (qc w l)) :
 Calls Tryz.prog 193 #[vv,.int .i64 v,.int .i64 u] w fun e w'=>e=.returned (.bool (decide (u∈l)))/\Below w.heap.size w w':=by
 obtain⟨a,n,c,rfl⟩:=hf;have AB:=zq hA;obtain⟨R,hRr⟩:=Zn (decide (u∈l));rw[<-hRr];have EQ:=zq hRr;clear hA hRr
 go_enter Tryz.func193,Tryz.ntmps193
 go_wp2_with fail
 refine AB.o.mono ?_;rintro e w2 ⟨v2,rfl,ho,hb⟩;obtain⟨ao,co,rfl,_⟩:=iP ho;have ROW:=zq (gU ho);have B2:=zq hb;obtain⟨N,hN⟩:=Zn l.length;rw[<-hN] at ROW ⊢;have LN:=zq hN;have capN:N<=9223372036854775807:=by have:=ROW.o.caps;unfold maxLen at this;omega
 clear ho hb hN AB
 go_wp2_with fail
 go_loop [13] (fun i=>∃ k:Nat,k<=N/\i=.int .i64 k/\Hid (∀ (j:Nat) x,j<k->l[j]?=some x->x≠u)) (fun i=>N - (intOf i).toNat)
 case atStart=>exact⟨0,Nat.zero_le _,rfl,zq (fun j x hj=>by omega)⟩
 obtain⟨k,hk,rfl,INV⟩:=hrel;by_cases hlt:k<N
 ·obtain⟨x,hx⟩:∃ x,l[k]?=some x:=⟨_,Zg (by have:=LN.o;omega)⟩;obtain⟨b,o,rfl,hbl,hc⟩:=ROW.o.at_ hx;have c0:=hc 0 (.int .i64 x) rfl;rw[Nat.mul_one,Nat.add_zero] at c0;have hlt':(k:Int)<(N:Int):=by omega
  have HX:=zq hx;have LT:=zq hlt;clear hx hc;by_cases he:x=u
  ·have FL:=zq (EQ.o.trans (decide_eq_true (he▸List.mem_of_getElem? HX.o)));have e0:(x==u)=true:=beq_iff_eq.2 he;clear he
   go_wp2_with fail
   go_ret;exact⟨aj FL.o.symm,B2.o⟩
  have NE:=zq he;have e0:(x==u)=false:=beq_eq_false_iff_ne.2 he;clear he
  go_wp2_with fail
  go_round
  case rel=>exact⟨k+1,by have:=LT.o;omega,by go_num,zq (fun j z hj hz=>by
   by_cases e:j=k
   ·subst e;have h1:=HX.o;rw[hz] at h1;cases h1;exact NE.o
   exact INV.o j z (by omega) hz)⟩
  case measure=>have:=LT.o;simp[intOf];omega
 have hlt':¬ (k:Int)<(N:Int):=by omega
 have FL:=zq (EQ.o.trans (Zf (fun h=>by
  obtain⟨j,hj,e⟩:=List.mem_iff_getElem.1 h;exact INV.o j u (by have:=LN.o;omega) (by rw[<-e];exact List.getElem?_eq_getElem hj) rfl)))
 clear hlt hk INV
 go_wp2_with fail
 go_ret;exact⟨aj FL.o.symm,B2.o⟩
theorem Nr {l:List Nat} {v:Nat}:((v:Nat):Int)∈ints l↔v∈l:=by
 unfold ints;rw[List.mem_map]
 constructor
 ·rintro⟨x,hx,e⟩;have:x=v:=by omega
  rw[<-this];exact hx
 intro h;exact⟨v,h,rfl⟩
theorem GK (w:World) (vv:Value) (ps:List Int) (v:Nat) (u:Int) (hR:RowOf w 1 dw vv ps) (hT:iD ps) (hv:v<ps.length) :
 Calls Tryz.prog 193 #[vv,.int .i64 (v:Nat),.int .i64 u] w fun e w'=>e=.returned (.bool (decide (u∈ints (ig ps v))))/\Below w.heap.size w w':=by
 obtain⟨a,c,e⟩:=hR.form;exact DR w vv v u _ ⟨a,_,c,e⟩ (I9 w vv ps v hR hT hv)
theorem Bg (w:World) (V:aB) (L:aH) (h:bK w V L) (hL:L.ai.length<=1024) (v u:Int) (B:Bool)
 (hU:∀ W vv,RowOf W 1 dw vv L.parents->Calls Tryz.prog 193 #[vv,.int .i64 v,.int .i64 u] W fun e w'=>e=.returned (.bool B)/\Below W.heap.size W w') :
 Calls Tryz.prog 179 #[V.val L,.int .i64 v,.int .i64 u] w fun e w'=>e=.returned (.bool B)/\Below w.heap.size w w':=by
 obtain⟨a1,c1',a2,c2',a3,c3',a4,c4',a5,c5',a6,c6',a7,c7',a8,c8',asl,hV⟩:=h.forms;have PAR:=zq (fun W (hb:Below w.heap.size w W)=>tZ W V L (h.below hb) hL);rw[hV] at PAR ⊢
 simp only[aB.val,aB.cells] at PAR ⊢
 have HU:=zq hU;obtain⟨PS,hPS⟩:=Zn L.parents;rw[<-hPS] at PAR HU;have BX:=zq (show ∃ W,W=w.alloc (.cells #[.int .i64 L.day,.slice a1 L.aQ.length c1',.slice a2 L.ah.length c2',.slice a3 L.af.length c3',.slice a4 asl.length c4',.slice a5 L.au.length c5',.slice a6 L.orders.length c6',.slice a7 L.aG.length c7',.slice a8 L.aJ.length c8'] 31)/\Below w.heap.size w W from
  ⟨_,rfl,Zb⟩)
 clear h hL hU hPS hV
 go_enter Tryz.func179,Tryz.ntmps179
 go_wp2_with fail
 obtain⟨W,hW,hb⟩:=BX.o;rw[<-hW];have B0:=zq hb;clear hW hb BX;refine (PAR.o W B0.o).mono ?_;rintro e w1 ⟨v1,rfl,ho,hb⟩;have B1:=zq (B0.o.trans (hb.mono B0.o.size));have RW:=zq (gU ho);clear ho hb
 go_wp2_with fail
 refine (HU.o w1 v1 RW.o).mono ?_;rintro e w2 ⟨rfl,hb⟩;have B2:=zq (B1.o.trans (hb.mono B1.o.size));clear hb
 go_wp2_with fail
 go_ret;exact⟨rfl,B2.o⟩
end Go.Proofs.YtcepekniflaoaaaGreatDoor
namespace Go.Proofs.YtcepekniflaoaaaGreatDoor
open Go.RowKit Go.Bw Go.Maps Go.Shelf Go.Bw.Fall
theorem Hy {ps:List Int} {a v:Nat}:decide ((a:Int)∈ints (ig ps v))=gq ps a v:=by
 unfold gq;rw[Bool.eq_iff_iff]
 simp only[decide_eq_true_eq]
 exact Nr
theorem wU (w:World) (V:aB) (L:aH) (h:bK w V L) (hg:L.Good) (v a:Nat) (hv:v<L.ai.length) :
 Calls Tryz.prog 179 #[V.val L,.int .i64 (v:Int),.int .i64 (a:Int)] w fun e w'=>e=.returned (.bool (gq L.parents a v))/\Below w.heap.size w w':=by
 have hl:L.parents.length=L.ai.length:=by unfold aH.parents;rw[List.length_map]
 refine Bg w V L h (by have:=hg.accounts.tree.hi;simp only[List.length_map] at this;omega) v a _ (fun W vv hr=>?_);rw[<-Hy];exact GK W vv L.parents v a hr hg.accounts.tree (by omega)
theorem J4 (w:World) (V:aB) (L:aH) (h:bK w V L) (hg:L.Good) (a:Nat) (under:Int) (s:Nat) (hs:s<21) :
 Calls Tryz.prog 181 #[V.val L,.int .i64 (a:Int),.int .i64 under,.int .i64 (s:Int)] w fun e w'=>e=.returned (.tuple #[.int .i64 (retA (jg L a under s)).1,.int .i64 (retA (jg L a under s)).2])/\Below w.heap.size w w':=by
 have HL:=zq h;have HG:=zq hg;have S21:=zq hs;obtain⟨R,hR⟩:=Zn (jg L a under s);have EQ:=zq hR;rw[<-hR];have GAL:=zq (fun W (hb:Below w.heap.size w W) j hj q f q0 q1 f0 f1=>JY W V L (h.below hb) hg j hj s hs q f q0 q1 f0 f1);have CNT:=zq (fun W (hb:Below w.heap.size w W) v hv=>wU W V L (h.below hb) hg v a hv);obtain⟨a1,c1,a2,c2,a3,c3,a4,c4,a5,c5,a6,c6,a7,c7,a8,c8,e1,e2,e3,e4,e5,e6,e7,e8⟩:=bK.opened h;have EV:=zq (And.intro e1 (And.intro e2 (And.intro e3 (And.intro e4 (And.intro e5 (And.intro e6 (And.intro e7 e8)))))));unfold aB.val aB.cells at GAL CNT ⊢;rw[e1,e2,e3,e4,e5,e6,e7,e8] at GAL CNT ⊢;obtain⟨n1,hn1⟩:=Zn L.aQ.length;obtain⟨n2,hn2⟩:=Zn L.ah.length;obtain⟨n3,hn3⟩:=Zn L.af.length;obtain⟨n4,hn4⟩:=Zn L.ai.length;obtain⟨n5,hn5⟩:=Zn L.au.length;obtain⟨n6,hn6⟩:=Zn L.orders.length;obtain⟨n7,hn7⟩:=Zn L.aG.length;obtain⟨n8,hn8⟩:=Zn L.aJ.length;have p64:n5<=64:=by have:=hg.au.len;omega
 have o32:n6<=32:=by have:=hg.orders.len;omega
 have L3:=zq hn3;have L4:=zq hn4;have L5:=zq hn5;have L6:=zq hn6;rw[<-hn1,<-hn2,<-hn3,<-hn4,<-hn5,<-hn6,<-hn7,<-hn8] at GAL CNT EV ⊢;have B0:=zq (show Below w.heap.size w (w.alloc (.cells #[.int .i64 L.day,.slice a1 n1 c1,.slice a2 n2 c2,.slice a3 n3 c3,.slice a4 n4 c4,.slice a5 n5 c5,.slice a6 n6 c6,.slice a7 n7 c7,.slice a8 n8 c8] 31))/\aY (w.alloc (.cells #[.int .i64 L.day,.slice a1 n1 c1,.slice a2 n2 c2,.slice a3 n3 c3,.slice a4 n4 c4,.slice a5 n5 c5,.slice a6 n6 c6,.slice a7 n7 c7,.slice a8 n8 c8] 31)) w.heap.size #[.int .i64 L.day,.slice a1 n1 c1,.slice a2 n2 c2,.slice a3 n3 c3,.slice a4 n4 c4,.slice a5 n5 c5,.slice a6 n6 c6,.slice a7 n7 c7,.slice a8 n8 c8] from ⟨Zb,aY.new _ _ _⟩);clear h hg hs hR e1 e2 e3 e4 e5 e6 e7 e8 hn1 hn2 hn3 hn4 hn5 hn6 hn7 hn8
 go_enter Tryz.func181,Tryz.ntmps181
 go_upto_region 1 with (fail)
 obtain⟨W0,hW0⟩:=Zn (w.alloc (.cells #[.int .i64 L.day,.slice a1 n1 c1,.slice a2 n2 c2,.slice a3 n3 c3,.slice a4 n4 c4,.slice a5 n5 c5,.slice a6 n6 c6,.slice a7 n7 c7,.slice a8 n8 c8] 31));rw[<-hW0] at B0 ⊢;obtain⟨hb,hhb⟩:=Zn w.heap.size;have C0:=zq (show Below w.heap.size w W0/\aY W0 hb #[.int .i64 L.day,.slice a1 n1 c1,.slice a2 n2 c2,.slice a3 n3 c3,.slice a4 n4 c4,.slice a5 n5 c5,.slice a6 n6 c6,.slice a7 n7 c7,.slice a8 n8 c8] from ⟨B0.o.1,by rw[hhb];exact B0.o.2⟩);rw[<-hhb];clear hW0 hhb B0;have d5:=C0.o.2.at_ 5 _ rfl
 go_wp2_with fail
 clear d5
 go_loopw [10,22] (fun al i wr=>∃ (k:Nat) (x:Int),k<=n5/\i=.int .i64 k/\al=.int .i64 x/\Below w.heap.size w wr/\aY wr hb #[.int .i64 L.day,.slice a1 n1 c1,.slice a2 n2 c2,.slice a3 n3 c3,.slice a4 n4 c4,.slice a5 n5 c5,.slice a6 n6 c6,.slice a7 n7 c7,.slice a8 n8 c8]/\Hid (R=(iw L a under s (L.au.drop k) x).bind fun y=>fF L a under s L.orders y)) (fun _ i _=>n5 - (intOf i).toNat)
 case atStart=>exact⟨0,0,Nat.zero_le _,rfl,rfl,C0.o.1,C0.o.2,zq (by rw[EQ.o];rfl)⟩
 obtain⟨k,x,hk,rfl,rfl,hbw,hbx,KEY⟩:=hrel;have TT:=zq (And.intro hbw hbx);clear hbw hbx;by_cases hlt:k<n5
 ·obtain⟨p,hp⟩:∃ p,L.au[k]?=some p:=⟨_,Zg (by have:=L5.o;omega)⟩;have row:RowOf wr 3 Pos.cells (.slice a5 n5 c5) L.au:=by have:=(HL.o.below TT.o.1).au;rw[EV.o.2.2.2.2.1] at this;exact this
  obtain⟨pb,po,eav,hbl,hc⟩:=row.at_ hp;have pok:=HG.o.au.all p (List.mem_of_getElem? hp);obtain⟨v,hv⟩:∃ v:Nat,p.ak=v:=⟨p.ak.toNat,by have:=pok.1;omega⟩;obtain⟨j,hj⟩:∃ j:Nat,p.instr=j:=⟨p.instr.toNat,by have:=pok.2.2.1;omega⟩;have cc0:=hc 0 (.int .i64 p.ak) rfl;have cc1:=hc 1 (.int .i64 p.instr) rfl;have cc2:=hc 2 (.int .i64 p.qty) rfl;rw[Nat.add_zero] at cc0;rw[hv] at cc0;rw[hj] at cc1;have hjl:j<L.af.length:=by have:=pok.2.2.2.1;omega
  have hvl:v<L.ai.length:=by have:=pok.2.1;omega
  obtain⟨i,hi⟩:∃ i,L.af[j]?=some i:=⟨_,List.getElem?_eq_getElem hjl⟩;have EI:=zq (show L.ins (j:Int)=i from by unfold aH.ins;simp[hi]);have iok:=HG.o.things.af i (List.mem_of_getElem? hi);have GA:=zq (fun W hb=>GAL.o W hb j (by have:=L3.o;omega) p.qty i.mark (by have:=pok.2.2.2.2.2.1;omega) (by have:=pok.2.2.2.2.2.2;omega) iok.2.2.2.2.1 iok.2.2.2.2.2.1);have HIT:=zq (show L.hit a under p.instr p.ak=(decide (i.under=under)&&gq L.parents a v) from by unfold aH.hit;rw[hj,hv,EI.o];rfl);have CN:=zq (fun W hb=>CNT.o W hb v (by have:=L4.o;omega));rw[hj,hv] at HIT;obtain⟨B2,hB2⟩:=Zn (gq L.parents a v);rw[<-hB2] at CN HIT;have row3:RowOf wr 7 Ins.cells (.slice a3 n3 c3) L.af:=by have:=(HL.o.below TT.o.1).af;rw[EV.o.2.2.1] at this;exact this
  obtain⟨ib,io,ea3,ibl,ic⟩:=row3.at_ hi;have i1:=ic 1 (.int .i64 i.under) rfl;have i6:=ic 6 (.int .i64 i.mark) rfl;have MK:=zq (And.intro ibl (show ∀ W,Below wr.heap.size wr W->W.cell? ⟨ib,io+j*7+1,none⟩=some (.int .i64 i.under)/\W.cell? ⟨ib,io+j*7+6,none⟩=some (.int .i64 i.mark) from fun W hb=>⟨(Mod.of_below hb).cell i1 (fun h=>h),(Mod.of_below hb).cell i6 (fun h=>h)⟩));have HJ:=zq hj;have HV:=zq hv;have HP:=zq hp;have LT:=zq hlt;have hlt':(k:Int)<(n5:Int):=by omega
  have jn:(j:Int)<(n3:Int):=by have:=L3.o;omega
  have j0:(0:Int)<=(j:Int):=by omega
  subst eav ea3;clear hB2 row row3 hc pok hv hj iok hi hp hbl hjl hvl ibl ic i1 i6;obtain⟨W1,hW1⟩:=Zn (wr.alloc (.cells #[.int .i64 (v:Int),.int .i64 (j:Int),.int .i64 p.qty] 50));have TB:=zq (show Below w.heap.size w W1/\aY W1 hb #[.int .i64 L.day,.slice a1 n1 c1,.slice a2 n2 c2,.slice (some ⟨ib,io,none⟩) n3 c3,.slice a4 n4 c4,.slice (some ⟨pb,po,none⟩) n5 c5,.slice a6 n6 c6,.slice a7 n7 c7,.slice a8 n8 c8]/\aY W1 wr.heap.size #[.int .i64 (v:Int),.int .i64 (j:Int),.int .i64 p.qty]/\Below wr.heap.size wr W1 from by
   rw[hW1];have b:=(Below.refl wr.heap.size wr).alloc (Nat.le_refl _) (.cells #[.int .i64 (v:Int),.int .i64 (j:Int),.int .i64 p.qty] 50);exact⟨TT.o.1.trans (b.mono TT.o.1.size),TT.o.2.below b,aY.new _ _ _,b⟩)
  obtain⟨wo,rfl⟩:=Zn wr
  go_upto_region 5 with (fail)
  rw[<-hW1];obtain⟨h12,hh12⟩:=Zn wo.heap.size;rw[<-hh12] at ⊢;have XB:=zq (show aY W1 h12 #[.int .i64 (v:Int),.int .i64 (j:Int),.int .i64 p.qty] from by rw[hh12];exact TB.o.2.2.1);clear hW1 hh12 cc0 cc1 cc2;have f1:=(MK.o.2 W1 TB.o.2.2.2).1;have b0:W1.cell? ⟨h12,0,none⟩=some (.int .i64 (v:Int)):=XB.o.at_ 0 _ rfl;have b1:W1.cell? ⟨h12,1,none⟩=some (.int .i64 (j:Int)):=XB.o.at_ 1 _ rfl;have y0:W1.cell? ⟨hb,0,none⟩=some (.int .i64 L.day):=TB.o.2.1.at_ 0 _ rfl;have y1:W1.cell? ⟨hb,1,none⟩=some (.slice a1 n1 c1):=TB.o.2.1.at_ 1 _ rfl;have y2:W1.cell? ⟨hb,2,none⟩=some (.slice a2 n2 c2):=TB.o.2.1.at_ 2 _ rfl;have y3:W1.cell? ⟨hb,3,none⟩=some (.slice (some ⟨ib,io,none⟩) n3 c3):=TB.o.2.1.at_ 3 _ rfl;have y4:W1.cell? ⟨hb,4,none⟩=some (.slice a4 n4 c4):=TB.o.2.1.at_ 4 _ rfl;have y5:W1.cell? ⟨hb,5,none⟩=some (.slice (some ⟨pb,po,none⟩) n5 c5):=TB.o.2.1.at_ 5 _ rfl;have y6:W1.cell? ⟨hb,6,none⟩=some (.slice a6 n6 c6):=TB.o.2.1.at_ 6 _ rfl;have y7:W1.cell? ⟨hb,7,none⟩=some (.slice a7 n7 c7):=TB.o.2.1.at_ 7 _ rfl;have y8:W1.cell? ⟨hb,8,none⟩=some (.slice a8 n8 c8):=TB.o.2.1.at_ 8 _ rfl;by_cases hun:i.under=under
  ·have hne:(i.under != under)=false:=by rw[bne_eq_false_iff_eq];exact hun
   have HD:=zq (decide_eq_true hun);rw[HD.o] at HIT;clear hun HD
   go_wp2_with fail
   refine (CN.o _ TB.o.1).mono ?_;rintro e w2 ⟨rfl,hb2⟩;have X2:=zq (show Below w.heap.size w w2/\aY w2 hb #[.int .i64 L.day,.slice a1 n1 c1,.slice a2 n2 c2,.slice (some ⟨ib,io,none⟩) n3 c3,.slice a4 n4 c4,.slice (some ⟨pb,po,none⟩) n5 c5,.slice a6 n6 c6,.slice a7 n7 c7,.slice a8 n8 c8]/\aY w2 h12 #[.int .i64 (v:Int),.int .i64 (j:Int),.int .i64 p.qty]/\Below wo.heap.size wo w2 from ⟨TB.o.1.trans (hb2.mono TB.o.1.size),TB.o.2.1.below hb2,XB.o.below hb2,TB.o.2.2.2.trans (hb2.mono TB.o.2.2.2.size)⟩);clear hb2 f1 b0 b1 y0 y1 y2 y3 y4 y5 y6 y7 y8
   cases B2
   ·go_wp2_with fail
    go_roundw
    case rel=>exact⟨k+1,x,by have:=LT.o;omega,by go_num,rfl,X2.o.1,X2.o.2.1,zq (by rw[KEY.o,lD HP.o (by rw[HJ.o,HV.o];exact HIT.o)])⟩
    case measure=>have:=LT.o;simp[intOf];omega
   have b1:w2.cell? ⟨h12,1,none⟩=some (.int .i64 (j:Int)):=X2.o.2.2.1.at_ 1 _ rfl;have b2:w2.cell? ⟨h12,2,none⟩=some (.int .i64 p.qty):=X2.o.2.2.1.at_ 2 _ rfl;have f6:=(MK.o.2 w2 X2.o.2.2.2).2;have y0:w2.cell? ⟨hb,0,none⟩=some (.int .i64 L.day):=X2.o.2.1.at_ 0 _ rfl;have y1:w2.cell? ⟨hb,1,none⟩=some (.slice a1 n1 c1):=X2.o.2.1.at_ 1 _ rfl;have y2:w2.cell? ⟨hb,2,none⟩=some (.slice a2 n2 c2):=X2.o.2.1.at_ 2 _ rfl;have y3:w2.cell? ⟨hb,3,none⟩=some (.slice (some ⟨ib,io,none⟩) n3 c3):=X2.o.2.1.at_ 3 _ rfl;have y4:w2.cell? ⟨hb,4,none⟩=some (.slice a4 n4 c4):=X2.o.2.1.at_ 4 _ rfl;have y5:w2.cell? ⟨hb,5,none⟩=some (.slice (some ⟨pb,po,none⟩) n5 c5):=X2.o.2.1.at_ 5 _ rfl;have y6:w2.cell? ⟨hb,6,none⟩=some (.slice a6 n6 c6):=X2.o.2.1.at_ 6 _ rfl;have y7:w2.cell? ⟨hb,7,none⟩=some (.slice a7 n7 c7):=X2.o.2.1.at_ 7 _ rfl;have y8:w2.cell? ⟨hb,8,none⟩=some (.slice a8 n8 c8):=X2.o.2.1.at_ 8 _ rfl
   go_upto_region 6 with (fail)
   refine aX (C:=fun w'=>∃ z:dh (fun _=>True),w'=z.w) [13] [] (.step 0 (.step 1 (.step 2 (.step 3 (.step 4 (.step 5 (.step 6 (.step 7 (.step 8 (.step 9 (.step 10 (.step 11 (.step 12 (.step 13 (.step 14 (.step 15 (.step 16 (.step 17 (.step 18 .leaf))))))))))))))))))) (fun _ _ _=>False) (by kernel_rfl) (fun _ _ _ h=>h.elim) (by kernel_rfl) ⟨⟨w2.drew,trivial⟩,rfl⟩ ?_;refine aC [0,1,2,3,4,5,6,7,8,9,10,11,12] (by kernel_rfl) ?_
   simp only[ay,nth]
   repeat (go_big_quiet_step (fail))
   refine wpQuiet_nil ?_;clear b1 b2 f6 y0 y1 y2 y3 y4 y5 y6 y7 y8;refine aK (by kernel_rfl) rfl (fun K hK=>?_)
   simp only[ay,nth]
   refine aA ?_;go_simp;refine (GA.o _ (X2.o.1.trans (((Mod.refl (fun _=>False) w2).drew).aU.mono X2.o.1.size))).mono ?_;rintro e w3 ⟨rfl,hb3⟩;have X3:=zq (show Below w.heap.size w w3/\aY w3 hb #[.int .i64 L.day,.slice a1 n1 c1,.slice a2 n2 c2,.slice (some ⟨ib,io,none⟩) n3 c3,.slice a4 n4 c4,.slice (some ⟨pb,po,none⟩) n5 c5,.slice a6 n6 c6,.slice a7 n7 c7,.slice a8 n8 c8] from by
    have b:=((Mod.refl (fun _=>False) w2).drew.trans (T:=fun _=>False) (Mod.of_below hb3) (fun _ _ h=>h.elim)).aU;exact⟨X2.o.1.trans (b.mono X2.o.1.size),X2.o.2.1.below b⟩)
   clear hb3;go_simp;refine hK _ _ ⟨⟨w3,trivial⟩,rfl⟩ ?_;clear hK;have GE:∃ g er,retA (jI L j p.qty s i.mark)=(g,er):=⟨_,_,rfl⟩;refine aC [14,15,16,17,18] (by kernel_rfl) ?_
   simp only[ay,nth]
   clear GE
   repeat (go_big_quiet_step (fail))
   refine wpQuiet_nil ?_;refine bH ?_
   cases hgo:jI L j p.qty s i.mark with
   | none =>
     have HN:=zq hgo;clear hgo
     simp only[retA]
     go_wp2_with fail
     go_ret2;exact⟨by rw[KEY.o,tC HP.o (by rw[HJ.o,HV.o];exact HIT.o) (by rw[HJ.o,EI.o];exact HN.o)];rfl,X3.o.1⟩
   | some g =>
     have HN:=zq hgo;clear hgo
     simp only[retA]
     have FS:=zq (fun W=>qK x g W);have SE:=zq (qZ x g);have SO:=zq (show lm x g=iG (fK x g) from rfl);obtain⟨SR,hSR⟩:=Zn (fK x g);rw[<-hSR] at FS SE SO;clear hSR
     go_wp2_with fail
     refine (FS.o _).mono ?_;rintro e w' ⟨rfl,rfl⟩;rcases SE.o with ⟨hz,hf⟩|hz
     ·have HZ:=zq (show lm x g=some SR.1 from by rw[SO.o];unfold iG;rw[if_pos hz]);have hz':(SR.2 != 0)=false:=by rw[bne_eq_false_iff_eq];exact hz
      clear hf hz
      go_wp2_with fail
      go_roundw
      case rel=>exact⟨k+1,SR.1,by have:=LT.o;omega,by go_num,rfl,X3.o.1,X3.o.2,zq (by rw[KEY.o,tH HP.o (by rw[HJ.o,HV.o];exact HIT.o) (by rw[HJ.o,EI.o];exact HN.o) HZ.o])⟩
      case measure=>have:=LT.o;simp[intOf];omega
     have HZ:=zq (show lm x g=none from by rw[SO.o,hz];rfl);subst hz
     go_wp2_with fail
     go_ret2;exact⟨by rw[KEY.o,tJ HP.o (by rw[HJ.o,HV.o];exact HIT.o) (by rw[HJ.o,EI.o];exact HN.o) HZ.o];rfl,X3.o.1⟩
  have hne:(i.under != under)=true:=by rw[bne_iff_ne];exact hun
  have HF:=zq (show L.hit a under p.instr p.ak=false from by rw[HJ.o,HV.o,HIT.o,decide_eq_false hun];rfl);clear hun
  go_wp2_with fail
  go_roundw
  case rel=>exact⟨k+1,x,by have:=LT.o;omega,by go_num,rfl,TB.o.1,TB.o.2.1,zq (by rw[KEY.o,lD HP.o HF.o])⟩
  case measure=>have:=LT.o;simp[intOf];omega
 have hlt':¬ (k:Int)<(n5:Int):=by omega
 have d6:wr.cell? ⟨hb,6,none⟩=some (.slice a6 n6 c6):=TT.o.2.at_ 6 _ rfl;have KEY0:=zq (show R=fF L a under s (L.orders.drop 0) x from by
  rw[KEY.o,List.drop_of_length_le (by have:=L5.o;omega)];rfl)
 obtain⟨wo,rfl⟩:=Zn wr
 go_wp2_with fail
 clear d6 hlt';have T0:=TT;clear TT KEY;obtain⟨x0,rfl⟩:=Zn x
 go_loopw [10,76] (fun al i wr=>∃ (k:Nat) (x:Int),k<=n6/\i=.int .i64 k/\al=.int .i64 x/\Below w.heap.size w wr/\aY wr hb #[.int .i64 L.day,.slice a1 n1 c1,.slice a2 n2 c2,.slice a3 n3 c3,.slice a4 n4 c4,.slice a5 n5 c5,.slice a6 n6 c6,.slice a7 n7 c7,.slice a8 n8 c8]/\Hid (R=fF L a under s (L.orders.drop k) x)) (fun _ i _=>n6 - (intOf i).toNat)
 case atStart=>exact⟨0,x0,Nat.zero_le _,rfl,rfl,T0.o.1,T0.o.2,zq (by exact KEY0.o)⟩
 obtain⟨k,x,hk,rfl,rfl,hbw,hbx,KEY⟩:=hrel;have TT:=zq (And.intro hbw hbx);clear hbw hbx;by_cases hlt:k<n6
 ·obtain⟨p,hp⟩:∃ p,L.orders[k]?=some p:=⟨_,Zg (by have:=L6.o;omega)⟩;have row:RowOf wr 5 Ord.cells (.slice a6 n6 c6) L.orders:=by have:=(HL.o.below TT.o.1).orders;rw[EV.o.2.2.2.2.2.1] at this;exact this
  obtain⟨pb,po,eav,hbl,hc⟩:=row.at_ hp;have pok:=HG.o.orders.all p (List.mem_of_getElem? hp);obtain⟨v,hv⟩:∃ v:Nat,p.ak=v:=⟨p.ak.toNat,by have:=pok.1;omega⟩;obtain⟨j,hj⟩:∃ j:Nat,p.instr=j:=⟨p.instr.toNat,by have:=pok.2.2.2.2.1;omega⟩;have cc0:=hc 0 (.int .i64 p.ak) rfl;have cc1:=hc 1 (.int .i64 p.id) rfl;have cc2:=hc 2 (.int .i64 p.instr) rfl;have cc3:=hc 3 (.int .i64 p.qty) rfl;have cc4:=hc 4 (.int .i64 p.price) rfl;rw[Nat.add_zero] at cc0;rw[hv] at cc0;rw[hj] at cc2;have hjl:j<L.af.length:=by have:=pok.2.2.2.2.2.1;omega
  have hvl:v<L.ai.length:=by have:=pok.2.1;omega
  obtain⟨i,hi⟩:∃ i,L.af[j]?=some i:=⟨_,List.getElem?_eq_getElem hjl⟩;have EI:=zq (show L.ins (j:Int)=i from by unfold aH.ins;simp[hi]);have iok:=HG.o.things.af i (List.mem_of_getElem? hi);have GA:=zq (fun W hb=>GAL.o W hb j (by have:=L3.o;omega) p.qty p.price (by have:=pok.2.2.2.2.2.2.2.1;omega) (by have:=pok.2.2.2.2.2.2.2.2.1;omega) (by have:=pok.2.2.2.2.2.2.2.2.2.1;omega) pok.2.2.2.2.2.2.2.2.2.2);have HIT:=zq (show L.hit a under p.instr p.ak=(decide (i.under=under)&&gq L.parents a v) from by unfold aH.hit;rw[hj,hv,EI.o];rfl);have CN:=zq (fun W hb=>CNT.o W hb v (by have:=L4.o;omega));rw[hj,hv] at HIT;obtain⟨B2,hB2⟩:=Zn (gq L.parents a v);rw[<-hB2] at CN HIT;have row3:RowOf wr 7 Ins.cells (.slice a3 n3 c3) L.af:=by have:=(HL.o.below TT.o.1).af;rw[EV.o.2.2.1] at this;exact this
  obtain⟨ib,io,ea3,ibl,ic⟩:=row3.at_ hi;have i1:=ic 1 (.int .i64 i.under) rfl;have i6:=ic 6 (.int .i64 i.mark) rfl;have MK:=zq (And.intro ibl (show ∀ W,Below wr.heap.size wr W->W.cell? ⟨ib,io+j*7+1,none⟩=some (.int .i64 i.under)/\W.cell? ⟨ib,io+j*7+6,none⟩=some (.int .i64 i.mark) from fun W hb=>⟨(Mod.of_below hb).cell i1 (fun h=>h),(Mod.of_below hb).cell i6 (fun h=>h)⟩));have HJ:=zq hj;have HV:=zq hv;have HP:=zq hp;have LT:=zq hlt;have hlt':(k:Int)<(n6:Int):=by omega
  have jn:(j:Int)<(n3:Int):=by have:=L3.o;omega
  have j0:(0:Int)<=(j:Int):=by omega
  subst eav ea3;clear hB2 row row3 hc pok hv hj iok hi hp hbl hjl hvl ibl ic i1 i6;obtain⟨W1,hW1⟩:=Zn (wr.alloc (.cells #[.int .i64 (v:Int),.int .i64 p.id,.int .i64 (j:Int),.int .i64 p.qty,.int .i64 p.price] 74));have TB:=zq (show Below w.heap.size w W1/\aY W1 hb #[.int .i64 L.day,.slice a1 n1 c1,.slice a2 n2 c2,.slice (some ⟨ib,io,none⟩) n3 c3,.slice a4 n4 c4,.slice a5 n5 c5,.slice (some ⟨pb,po,none⟩) n6 c6,.slice a7 n7 c7,.slice a8 n8 c8]/\aY W1 wr.heap.size #[.int .i64 (v:Int),.int .i64 p.id,.int .i64 (j:Int),.int .i64 p.qty,.int .i64 p.price]/\Below wr.heap.size wr W1 from by
   rw[hW1];have b:=(Below.refl wr.heap.size wr).alloc (Nat.le_refl _) (.cells #[.int .i64 (v:Int),.int .i64 p.id,.int .i64 (j:Int),.int .i64 p.qty,.int .i64 p.price] 74);exact⟨TT.o.1.trans (b.mono TT.o.1.size),TT.o.2.below b,aY.new _ _ _,b⟩)
  obtain⟨wo,rfl⟩:=Zn wr
  go_upto_region 16 with (fail)
  rw[<-hW1];obtain⟨h12,hh12⟩:=Zn wo.heap.size;rw[<-hh12] at ⊢;have XB:=zq (show aY W1 h12 #[.int .i64 (v:Int),.int .i64 p.id,.int .i64 (j:Int),.int .i64 p.qty,.int .i64 p.price] from by rw[hh12];exact TB.o.2.2.1);clear hW1 hh12 cc0 cc1 cc2 cc3 cc4;have f1:=(MK.o.2 W1 TB.o.2.2.2).1;have b0:W1.cell? ⟨h12,0,none⟩=some (.int .i64 (v:Int)):=XB.o.at_ 0 _ rfl;have b2:W1.cell? ⟨h12,2,none⟩=some (.int .i64 (j:Int)):=XB.o.at_ 2 _ rfl;have y0:W1.cell? ⟨hb,0,none⟩=some (.int .i64 L.day):=TB.o.2.1.at_ 0 _ rfl;have y1:W1.cell? ⟨hb,1,none⟩=some (.slice a1 n1 c1):=TB.o.2.1.at_ 1 _ rfl;have y2:W1.cell? ⟨hb,2,none⟩=some (.slice a2 n2 c2):=TB.o.2.1.at_ 2 _ rfl;have y3:W1.cell? ⟨hb,3,none⟩=some (.slice (some ⟨ib,io,none⟩) n3 c3):=TB.o.2.1.at_ 3 _ rfl;have y4:W1.cell? ⟨hb,4,none⟩=some (.slice a4 n4 c4):=TB.o.2.1.at_ 4 _ rfl;have y5:W1.cell? ⟨hb,5,none⟩=some (.slice a5 n5 c5):=TB.o.2.1.at_ 5 _ rfl;have y6:W1.cell? ⟨hb,6,none⟩=some (.slice (some ⟨pb,po,none⟩) n6 c6):=TB.o.2.1.at_ 6 _ rfl;have y7:W1.cell? ⟨hb,7,none⟩=some (.slice a7 n7 c7):=TB.o.2.1.at_ 7 _ rfl;have y8:W1.cell? ⟨hb,8,none⟩=some (.slice a8 n8 c8):=TB.o.2.1.at_ 8 _ rfl;by_cases hun:i.under=under
  ·have hne:(i.under != under)=false:=by rw[bne_eq_false_iff_eq];exact hun
   have HD:=zq (decide_eq_true hun);rw[HD.o] at HIT;clear hun HD
   go_wp2_with fail
   refine (CN.o _ TB.o.1).mono ?_;rintro e w2 ⟨rfl,hb2⟩;have X2:=zq (show Below w.heap.size w w2/\aY w2 hb #[.int .i64 L.day,.slice a1 n1 c1,.slice a2 n2 c2,.slice (some ⟨ib,io,none⟩) n3 c3,.slice a4 n4 c4,.slice a5 n5 c5,.slice (some ⟨pb,po,none⟩) n6 c6,.slice a7 n7 c7,.slice a8 n8 c8]/\aY w2 h12 #[.int .i64 (v:Int),.int .i64 p.id,.int .i64 (j:Int),.int .i64 p.qty,.int .i64 p.price]/\Below wo.heap.size wo w2 from ⟨TB.o.1.trans (hb2.mono TB.o.1.size),TB.o.2.1.below hb2,XB.o.below hb2,TB.o.2.2.2.trans (hb2.mono TB.o.2.2.2.size)⟩);clear hb2 f1 b0 b2 y0 y1 y2 y3 y4 y5 y6 y7 y8
   cases B2
   ·go_wp2_with fail
    go_roundw
    case rel=>exact⟨k+1,x,by have:=LT.o;omega,by go_num,rfl,X2.o.1,X2.o.2.1,zq (by rw[KEY.o,lC HP.o (by rw[HJ.o,HV.o];exact HIT.o)])⟩
    case measure=>have:=LT.o;simp[intOf];omega
   have b2:w2.cell? ⟨h12,2,none⟩=some (.int .i64 (j:Int)):=X2.o.2.2.1.at_ 2 _ rfl;have b3:w2.cell? ⟨h12,3,none⟩=some (.int .i64 p.qty):=X2.o.2.2.1.at_ 3 _ rfl;have b4:w2.cell? ⟨h12,4,none⟩=some (.int .i64 p.price):=X2.o.2.2.1.at_ 4 _ rfl;have y0:w2.cell? ⟨hb,0,none⟩=some (.int .i64 L.day):=X2.o.2.1.at_ 0 _ rfl;have y1:w2.cell? ⟨hb,1,none⟩=some (.slice a1 n1 c1):=X2.o.2.1.at_ 1 _ rfl;have y2:w2.cell? ⟨hb,2,none⟩=some (.slice a2 n2 c2):=X2.o.2.1.at_ 2 _ rfl;have y3:w2.cell? ⟨hb,3,none⟩=some (.slice (some ⟨ib,io,none⟩) n3 c3):=X2.o.2.1.at_ 3 _ rfl;have y4:w2.cell? ⟨hb,4,none⟩=some (.slice a4 n4 c4):=X2.o.2.1.at_ 4 _ rfl;have y5:w2.cell? ⟨hb,5,none⟩=some (.slice a5 n5 c5):=X2.o.2.1.at_ 5 _ rfl;have y6:w2.cell? ⟨hb,6,none⟩=some (.slice (some ⟨pb,po,none⟩) n6 c6):=X2.o.2.1.at_ 6 _ rfl;have y7:w2.cell? ⟨hb,7,none⟩=some (.slice a7 n7 c7):=X2.o.2.1.at_ 7 _ rfl;have y8:w2.cell? ⟨hb,8,none⟩=some (.slice a8 n8 c8):=X2.o.2.1.at_ 8 _ rfl
   go_wp2_with fail
   refine (GA.o _ X2.o.1).mono ?_;rintro e w3 ⟨rfl,hb3⟩;have X3:=zq (show Below w.heap.size w w3/\aY w3 hb #[.int .i64 L.day,.slice a1 n1 c1,.slice a2 n2 c2,.slice (some ⟨ib,io,none⟩) n3 c3,.slice a4 n4 c4,.slice a5 n5 c5,.slice (some ⟨pb,po,none⟩) n6 c6,.slice a7 n7 c7,.slice a8 n8 c8] from ⟨X2.o.1.trans (hb3.mono X2.o.1.size),X2.o.2.1.below hb3⟩);clear hb3 b2 b3 b4 y0 y1 y2 y3 y4 y5 y6 y7 y8
   cases hgo:jI L j p.qty s p.price with
   | none =>
     have HN:=zq hgo;clear hgo
     simp only[retA]
     go_wp2_with fail
     go_ret2;exact⟨by rw[KEY.o,tu HP.o (by rw[HJ.o,HV.o];exact HIT.o) (by rw[HJ.o];exact HN.o)];rfl,X3.o.1⟩
   | some g =>
     have HN:=zq hgo;clear hgo
     simp only[retA]
     obtain⟨mg,hmg⟩:=Zn (min g 0);have FS:=zq (fun W=>qK x mg W);have SE:=zq (qZ x mg);have SO:=zq (show lm x (min g 0)=iG (fK x mg) from by rw[hmg];rfl);obtain⟨SR,hSR⟩:=Zn (fK x mg);rw[<-hSR] at FS SE SO;clear hSR;by_cases gp:0<g
     ·have e0:mg=0:=by omega
      rw[e0] at FS;clear e0 hmg
      go_wp2_with fail
      refine (FS.o _).mono ?_;rintro e w' ⟨rfl,rfl⟩;rcases SE.o with ⟨hz,hf⟩|hz
      ·have HZ:=zq (show lm x (min g 0)=some SR.1 from by rw[SO.o];unfold iG;rw[if_pos hz]);have hz':(SR.2 != 0)=false:=by rw[bne_eq_false_iff_eq];exact hz
       clear hf hz
       go_wp2_with fail
       go_roundw
       case rel=>exact⟨k+1,SR.1,by have:=LT.o;omega,by go_num,rfl,X3.o.1,X3.o.2,zq (by rw[KEY.o,oM HP.o (by rw[HJ.o,HV.o];exact HIT.o) (by rw[HJ.o];exact HN.o) HZ.o])⟩
       case measure=>have:=LT.o;simp[intOf];omega
      have HZ:=zq (show lm x (min g 0)=none from by rw[SO.o,hz];rfl);subst hz
      go_wp2_with fail
      go_ret2;exact⟨by rw[KEY.o,oN HP.o (by rw[HJ.o,HV.o];exact HIT.o) (by rw[HJ.o];exact HN.o) HZ.o];rfl,X3.o.1⟩
     have e0:mg=g:=by omega
     rw[e0] at FS;clear e0 hmg
     go_wp2_with fail
     refine (FS.o _).mono ?_;rintro e w' ⟨rfl,rfl⟩;rcases SE.o with ⟨hz,hf⟩|hz
     ·have HZ:=zq (show lm x (min g 0)=some SR.1 from by rw[SO.o];unfold iG;rw[if_pos hz]);have hz':(SR.2 != 0)=false:=by rw[bne_eq_false_iff_eq];exact hz
      clear hf hz
      go_wp2_with fail
      go_roundw
      case rel=>exact⟨k+1,SR.1,by have:=LT.o;omega,by go_num,rfl,X3.o.1,X3.o.2,zq (by rw[KEY.o,oM HP.o (by rw[HJ.o,HV.o];exact HIT.o) (by rw[HJ.o];exact HN.o) HZ.o])⟩
      case measure=>have:=LT.o;simp[intOf];omega
     have HZ:=zq (show lm x (min g 0)=none from by rw[SO.o,hz];rfl);subst hz
     go_wp2_with fail
     go_ret2;exact⟨by rw[KEY.o,oN HP.o (by rw[HJ.o,HV.o];exact HIT.o) (by rw[HJ.o];exact HN.o) HZ.o];rfl,X3.o.1⟩
  have hne:(i.under != under)=true:=by rw[bne_iff_ne];exact hun
  have HF:=zq (show L.hit a under p.instr p.ak=false from by rw[HJ.o,HV.o,HIT.o,decide_eq_false hun];rfl);clear hun
  go_wp2_with fail
  go_roundw
  case rel=>exact⟨k+1,x,by have:=LT.o;omega,by go_num,rfl,TB.o.1,TB.o.2.1,zq (by rw[KEY.o,lC HP.o HF.o])⟩
  case measure=>have:=LT.o;simp[intOf];omega
 have hlt':¬ (k:Int)<(n6:Int):=by omega
 go_wp2_with fail
 go_ret2;exact⟨by rw[KEY.o,List.drop_of_length_le (by have:=L6.o;omega)];rfl,TT.o.1⟩
theorem vX {L:aH} {a:Nat} {u:Int} {n:Nat} {m x:Int} (h:iF L a u n=some m) (hx:jg L a u n=some x):iF L a u (n+1)=some (max m x):=by
 show ((iF L a u n).bind fun w=>(jg L a u n).map fun x=>max w x)=_
 rw[h,hx];rfl
def tY (L:aH) (a n:Nat):List Acc:=(((List.range L.ai.length).drop n).filter (gq L.parents a)).map fun v=>L.ai.getD v ⟨-1,[],false,0⟩
theorem Gu (L:aH) (a:Nat):tY L a 0=L.under a:=by
 unfold tY aH.under gI aH.parents;rw[List.drop_zero,List.length_map]
theorem JX (L:aH) (a:Nat) {n:Nat} (h:L.ai.length<=n):tY L a n=[]:=by
 unfold tY;rw[List.drop_of_length_le (by rw[List.length_range];exact h)];rfl
theorem Gt (L:aH) (a n:Nat) {p:Acc} (h:L.ai[n]?=some p):tY L a n=if gq L.parents a n=true then p::tY L a (n+1) else tY L a (n+1):=by
 have hn:=(List.getElem?_eq_some_iff.1 h).1;have e:(List.range L.ai.length)[n]?=some n:=by rw[List.getElem?_range hn]
 unfold tY;rw[drop_cons e,List.filter_cons];by_cases hu:gq L.parents a n=true
 ·rw[if_pos hu,if_pos hu,List.map_cons]
  congr 1
  rw[List.getD_eq_getElem?_getD,h];rfl
 rw[if_neg hu,if_neg hu]
theorem J6 (w:World) (V:aB) (L:aH) (h:bK w V L) (hg:L.Good) (a:Nat) :
 Calls Tryz.prog 161 #[V.val L,.int .i64 (a:Int)] w fun e w'=>e=.returned (.tuple #[.int .i64 (retA (pI L a)).1,.int .i64 (retA (pI L a)).2])/\Below w.heap.size w w':=by
 have HL:=zq h;have HG:=zq hg;obtain⟨R,hR⟩:=Zn (pI L a);have EQ:=zq hR;rw[<-hR];have LSL:=zq (fun W (hb:Below w.heap.size w W) under s hs=>J4 W V L (h.below hb) hg a under s hs);obtain⟨a1,c1,a2,c2,a3,c3,a4,c4,a5,c5,a6,c6,a7,c7,a8,c8,e1,e2,e3,e4,e5,e6,e7,e8⟩:=bK.opened h;have EV:=zq (And.intro e1 (And.intro e2 (And.intro e3 (And.intro e4 (And.intro e5 (And.intro e6 (And.intro e7 e8)))))));unfold aB.val aB.cells at LSL ⊢;rw[e1,e2,e3,e4,e5,e6,e7,e8] at LSL ⊢;obtain⟨n1,hn1⟩:=Zn L.aQ.length;obtain⟨n2,hn2⟩:=Zn L.ah.length;obtain⟨n3,hn3⟩:=Zn L.af.length;obtain⟨n4,hn4⟩:=Zn L.ai.length;obtain⟨n5,hn5⟩:=Zn L.au.length;obtain⟨n6,hn6⟩:=Zn L.orders.length;obtain⟨n7,hn7⟩:=Zn L.aG.length;obtain⟨n8,hn8⟩:=Zn L.aJ.length;have m1:n1<=4:=by have:=hg.things.c1;omega
 have m2:n2<=6:=by have:=hg.things.u1;omega
 have m4:n4<=16:=by have:=hg.accounts.tree.hi;simp only[List.length_map] at this;omega
 have L1:=zq hn1;have L2:=zq hn2;have L4:=zq hn4;rw[<-hn1,<-hn2,<-hn3,<-hn4,<-hn5,<-hn6,<-hn7,<-hn8] at LSL EV ⊢;have B0:=zq (show Below w.heap.size w (w.alloc (.cells #[.int .i64 L.day,.slice a1 n1 c1,.slice a2 n2 c2,.slice a3 n3 c3,.slice a4 n4 c4,.slice a5 n5 c5,.slice a6 n6 c6,.slice a7 n7 c7,.slice a8 n8 c8] 31))/\aY (w.alloc (.cells #[.int .i64 L.day,.slice a1 n1 c1,.slice a2 n2 c2,.slice a3 n3 c3,.slice a4 n4 c4,.slice a5 n5 c5,.slice a6 n6 c6,.slice a7 n7 c7,.slice a8 n8 c8] 31)) w.heap.size #[.int .i64 L.day,.slice a1 n1 c1,.slice a2 n2 c2,.slice a3 n3 c3,.slice a4 n4 c4,.slice a5 n5 c5,.slice a6 n6 c6,.slice a7 n7 c7,.slice a8 n8 c8] from ⟨Zb,aY.new _ _ _⟩);clear h hg hR e1 e2 e3 e4 e5 e6 e7 e8 hn1 hn2 hn3 hn4 hn5 hn6 hn7 hn8
 go_enter Tryz.func161,Tryz.ntmps161
 go_upto_region 1 with (fail)
 obtain⟨W0,hW0⟩:=Zn (w.alloc (.cells #[.int .i64 L.day,.slice a1 n1 c1,.slice a2 n2 c2,.slice a3 n3 c3,.slice a4 n4 c4,.slice a5 n5 c5,.slice a6 n6 c6,.slice a7 n7 c7,.slice a8 n8 c8] 31));rw[<-hW0] at B0 ⊢;obtain⟨hb,hhb⟩:=Zn w.heap.size;have C0:=zq (show Below w.heap.size w W0/\aY W0 hb #[.int .i64 L.day,.slice a1 n1 c1,.slice a2 n2 c2,.slice a3 n3 c3,.slice a4 n4 c4,.slice a5 n5 c5,.slice a6 n6 c6,.slice a7 n7 c7,.slice a8 n8 c8] from ⟨B0.o.1,by rw[hhb];exact B0.o.2⟩);rw[<-hhb];clear hW0 hhb B0;have dd:=C0.o.2.at_ 2 _ rfl
 go_wp2_with fail
 clear dd
 go_loopw [6,18] (fun al i wr=>∃ (k:Nat) (x:Int),k<=n2/\i=.int .i64 k/\al=.int .i64 x/\Below w.heap.size w wr/\aY wr hb #[.int .i64 L.day,.slice a1 n1 c1,.slice a2 n2 c2,.slice a3 n3 c3,.slice a4 n4 c4,.slice a5 n5 c5,.slice a6 n6 c6,.slice a7 n7 c7,.slice a8 n8 c8]/\Hid (R=jF L a k (L.ah.drop k) x)) (fun _ i _=>n2 - (intOf i).toNat)
 case atStart=>exact⟨0,0,Nat.zero_le _,rfl,rfl,C0.o.1,C0.o.2,zq EQ.o⟩
 obtain⟨k,x,hk,rfl,rfl,hbw,hbx,KEY⟩:=hrel;have TT:=zq (And.intro hbw hbx);clear hbw hbx;by_cases hlt:k<n2
 ·obtain⟨u,hu⟩:∃ u,L.ah[k]?=some u:=⟨_,Zg (by have:=L2.o;omega)⟩;have row:RowOf wr 4 dX.cells (.slice a2 n2 c2) L.ah:=by have:=(HL.o.below TT.o.1).ah;rw[EV.o.2.1] at this;exact this
  obtain⟨ub,uo,ea2,hbl,hc⟩:=row.at_ hu;have uok:=HG.o.things.ah k u hu;obtain⟨q,hq⟩:∃ q:Nat,u.cur=q:=⟨u.cur.toNat,by have:=uok.2.1;omega⟩;have hql:q<L.aQ.length:=by have:=uok.2.2.1;omega
  obtain⟨c,hcr⟩:∃ c,L.aQ[q]?=some c:=⟨_,List.getElem?_eq_getElem hql⟩;have EC:=zq (show L.cur u.cur=c from by rw[hq];unfold aH.cur;simp[hcr]);have cok:=zq (HG.o.things.aQ q c hcr);have u0:=hc 0 (.string u.name) rfl;have u1:=hc 1 (.int .i64 u.cur) rfl;have u2:=hc 2 (.int .i64 u.price) rfl;have u3:=hc 3 (.int .i64 u.cZ) rfl;rw[Nat.add_zero] at u0;rw[hq] at u1;have DK:=zq (drop_cons hu);have LT:=zq hlt;have hlt':(k:Int)<(n2:Int):=by omega
  have row1:∀ W,Below w.heap.size w W->RowOf W 2 gu.cells (.slice a1 n1 c1) L.aQ:=fun W hb=>by have:=(HL.o.below hb).aQ;rw[EV.o.1] at this;exact this
  obtain⟨qb,qo,ea1,_,_⟩:=(row1 wr TT.o.1).at_ hcr;have CD:=zq (show ∀ W,Below w.heap.size w W->W.cell? ⟨qb,qo+q*2,none⟩=some (.int .i64 c.rate)/\W.cell? ⟨qb,qo+q*2+1,none⟩=some (.int .i64 c.dL) from fun W hb=>by
   obtain⟨b',o',e,_,hcc⟩:=(row1 W hb).at_ hcr;rw[ea1] at e
   cases e
   exact⟨hcc 0 _ rfl,hcc 1 _ rfl⟩)
  have q0:(0:Int)<=(q:Int):=by omega
  have qn:(q:Int)<(n1:Int):=by have:=L1.o;omega
  have k0:(0:Int)<=(k:Int):=by omega
  subst ea2 ea1;clear row hc uok hq hcr hu hbl hql hlt row1;obtain⟨W1,hW1⟩:=Zn (wr.alloc (.cells #[.string u.name,.int .i64 (q:Int),.int .i64 u.price,.int .i64 u.cZ] 48));have TB:=zq (show Below w.heap.size w W1/\aY W1 hb #[.int .i64 L.day,.slice (some ⟨qb,qo,none⟩) n1 c1,.slice (some ⟨ub,uo,none⟩) n2 c2,.slice a3 n3 c3,.slice a4 n4 c4,.slice a5 n5 c5,.slice a6 n6 c6,.slice a7 n7 c7,.slice a8 n8 c8]/\aY W1 wr.heap.size #[.string u.name,.int .i64 (q:Int),.int .i64 u.price,.int .i64 u.cZ] from by
   rw[hW1];have b:=(Below.refl wr.heap.size wr).alloc (Nat.le_refl _) (.cells #[.string u.name,.int .i64 (q:Int),.int .i64 u.price,.int .i64 u.cZ] 48);exact⟨TT.o.1.trans (b.mono TT.o.1.size),TT.o.2.below b,aY.new _ _ _⟩)
  obtain⟨wo,rfl⟩:=Zn wr
  go_upto_region 5 with (fail)
  rw[<-hW1];obtain⟨h8,hh8⟩:=Zn wo.heap.size;rw[<-hh8] at TB ⊢;clear hW1 hh8 u0 u1 u2 u3
  go_wp2_with fail
  go_loopw [9,10] (fun wv i wr=>∃ (n:Nat) (m:Int),n<=21/\i=.int .i64 n/\wv=.int .i64 m/\Below w.heap.size w wr/\aY wr hb #[.int .i64 L.day,.slice (some ⟨qb,qo,none⟩) n1 c1,.slice (some ⟨ub,uo,none⟩) n2 c2,.slice a3 n3 c3,.slice a4 n4 c4,.slice a5 n5 c5,.slice a6 n6 c6,.slice a7 n7 c7,.slice a8 n8 c8]/\aY wr h8 #[.string u.name,.int .i64 (q:Int),.int .i64 u.price,.int .i64 u.cZ]/\Hid (iF L a k n=some m)) (fun _ i _=>21 - (intOf i).toNat)
  case atStart=>exact⟨0,0,by omega,rfl,rfl,TB.o.1,TB.o.2.1,TB.o.2.2,zq rfl⟩
  obtain⟨n,m,hn,rfl,rfl,hb1,hb2,hb3,WK⟩:=hrel;have TI:=zq (And.intro hb1 (And.intro hb2 hb3));clear hb1 hb2 hb3;by_cases hl2:n<21
  ·have hl2':(n:Int)<21:=by omega
   have LS:=zq (LSL.o wr TI.o.1 k n hl2);have LT2:=zq hl2;clear hl2 hn;have y0:wr.cell? ⟨hb,0,none⟩=some (.int .i64 L.day):=TI.o.2.1.at_ 0 _ rfl;have y1:wr.cell? ⟨hb,1,none⟩=some (.slice (some ⟨qb,qo,none⟩) n1 c1):=TI.o.2.1.at_ 1 _ rfl;have y2:wr.cell? ⟨hb,2,none⟩=some (.slice (some ⟨ub,uo,none⟩) n2 c2):=TI.o.2.1.at_ 2 _ rfl;have y3:wr.cell? ⟨hb,3,none⟩=some (.slice a3 n3 c3):=TI.o.2.1.at_ 3 _ rfl;have y4:wr.cell? ⟨hb,4,none⟩=some (.slice a4 n4 c4):=TI.o.2.1.at_ 4 _ rfl;have y5:wr.cell? ⟨hb,5,none⟩=some (.slice a5 n5 c5):=TI.o.2.1.at_ 5 _ rfl;have y6:wr.cell? ⟨hb,6,none⟩=some (.slice a6 n6 c6):=TI.o.2.1.at_ 6 _ rfl;have y7:wr.cell? ⟨hb,7,none⟩=some (.slice a7 n7 c7):=TI.o.2.1.at_ 7 _ rfl;have y8:wr.cell? ⟨hb,8,none⟩=some (.slice a8 n8 c8):=TI.o.2.1.at_ 8 _ rfl
   go_wp2_with fail
   refine LS.o.mono ?_;rintro e w3 ⟨rfl,hb3⟩;have X3:=zq (show Below w.heap.size w w3/\aY w3 hb #[.int .i64 L.day,.slice (some ⟨qb,qo,none⟩) n1 c1,.slice (some ⟨ub,uo,none⟩) n2 c2,.slice a3 n3 c3,.slice a4 n4 c4,.slice a5 n5 c5,.slice a6 n6 c6,.slice a7 n7 c7,.slice a8 n8 c8]/\aY w3 h8 #[.string u.name,.int .i64 (q:Int),.int .i64 u.price,.int .i64 u.cZ] from ⟨TI.o.1.trans (hb3.mono TI.o.1.size),TI.o.2.1.below hb3,TI.o.2.2.below hb3⟩);clear hb3 y0 y1 y2 y3 y4 y5 y6 y7 y8
   cases hlo:jg L a k n with
   | none =>
     have HN:=zq hlo;clear hlo
     simp only[retA]
     go_wp2_with fail
     go_ret2;exact⟨by rw[KEY.o,DK.o,vM (qO HN.o 21 LT2.o)];rfl,X3.o.1⟩
   | some g =>
     have HN:=zq hlo;clear hlo
     simp only[retA]
     by_cases hgt:m<g
     ·have MX:=zq (show max m g=g from by omega)
      go_wp2_with fail
      go_roundw
      case rel=>exact⟨n+1,g,by have:=LT2.o;omega,by go_num,rfl,X3.o.1,X3.o.2.1,X3.o.2.2,zq (by rw[vX WK.o HN.o,MX.o])⟩
      case measure=>have:=LT2.o;simp[intOf];omega
     have MX:=zq (show max m g=m from by omega)
     go_wp2_with fail
     go_roundw
     case rel=>exact⟨n+1,m,by have:=LT2.o;omega,by go_num,rfl,X3.o.1,X3.o.2.1,X3.o.2.2,zq (by rw[vX WK.o HN.o,MX.o])⟩
     case measure=>have:=LT2.o;simp[intOf];omega
  have hl2':¬ (n:Int)<21:=by omega
  obtain rfl:n=21:=by omega
  have BC:=zq (fun W=>zF c q cok.o m 1 (I64.bU (qN WK.o).1) (by omega) (by omega) W);have ER:=zq (xI m c.rate 1000000 1 (by omega) (by omega) (by omega));have BO:=zq (show nH c m 1=iG (iT m c.rate 1000000 1) from rfl);obtain⟨MR,hMR⟩:=Zn (iT m c.rate 1000000 1);rw[<-hMR] at BC ER BO;obtain⟨d0,d1⟩:=CD.o wr TI.o.1;have y1:=TI.o.2.1.at_ 1 _ rfl;have z1:wr.cell? ⟨h8,1,none⟩=some (.int .i64 (q:Int)):=TI.o.2.2.at_ 1 _ rfl;clear hMR hl2 hn
  go_wp2_with fail
  refine (BC.o _).mono ?_;rintro e w4 ⟨rfl,hb4⟩;have X4:=zq (show Below w.heap.size w w4/\aY w4 hb #[.int .i64 L.day,.slice (some ⟨qb,qo,none⟩) n1 c1,.slice (some ⟨ub,uo,none⟩) n2 c2,.slice a3 n3 c3,.slice a4 n4 c4,.slice a5 n5 c5,.slice a6 n6 c6,.slice a7 n7 c7,.slice a8 n8 c8] from ⟨TI.o.1.trans (hb4.mono TI.o.1.size),TI.o.2.1.below hb4⟩);clear hb4 d0 d1 y1 z1;rcases Or.symm ER.o with hz|⟨hz,hf⟩
  ·have HZ:=zq (show nH c m 1=none from by rw[BO.o,hz];rfl);subst hz
   go_wp2_with fail
   go_ret2;exact⟨by rw[KEY.o,DK.o,vK WK.o (by rw[EC.o];exact HZ.o)];rfl,X4.o.1⟩
  have HZ:=zq (show nH c m 1=some MR.1 from by rw[BO.o];unfold iG;rw[if_pos hz]);have hz':(MR.2 != 0)=false:=by rw[bne_eq_false_iff_eq];exact hz
  have AC:=zq (fun W=>oq x MR.1 W);have AE:=zq (qQ x MR.1);have AO:=zq (show kC x MR.1=iG (dQ x MR.1) from rfl);obtain⟨AR,hAR⟩:=Zn (dQ x MR.1);rw[<-hAR] at AC AE AO;clear hAR hz hf
  go_wp2_with fail
  refine (AC.o _).mono ?_;rintro e w' ⟨rfl,rfl⟩;rcases Or.symm AE.o with hy|⟨hy,hf⟩
  ·have HY:=zq (show kC x MR.1=none from by rw[AO.o,hy];rfl);subst hy
   go_wp2_with fail
   go_ret2;exact⟨by rw[KEY.o,DK.o,vO WK.o (by rw[EC.o];exact HZ.o) HY.o];rfl,X4.o.1⟩
  have HY:=zq (show kC x MR.1=some AR.1 from by rw[AO.o];unfold iG;rw[if_pos hy]);have hy':(AR.2 != 0)=false:=by rw[bne_eq_false_iff_eq];exact hy
  clear hy hf
  go_wp2_with fail
  go_roundw
  case rel=>exact⟨k+1,AR.1,by have:=LT.o;omega,by go_num,rfl,X4.o.1,X4.o.2,zq (by rw[KEY.o,DK.o,vN WK.o (by rw[EC.o];exact HZ.o) HY.o])⟩
  case measure=>have:=LT.o;simp[intOf];omega
 have hlt':¬ (k:Int)<(n2:Int):=by omega
 go_wp2_with fail
 go_ret2;exact⟨by rw[KEY.o,List.drop_of_length_le (by have:=L2.o;omega)];rfl,TT.o.1⟩
theorem J3 (w:World) (V:aB) (L:aH) (h:bK w V L) (hg:L.Good) (a:Nat) :
 Calls Tryz.prog 160 #[V.val L,.int .i64 (a:Int)] w fun e w'=>e=.returned (.tuple #[.int .i64 (retA (vH L a)).1,.int .i64 (retA (vH L a)).2])/\Below w.heap.size w w':=by
 have HL:=zq h;have HG:=zq hg;obtain⟨R,hR⟩:=Zn (vH L a);have EQ:=zq hR;rw[<-hR];have CNT:=zq (fun W (hb:Below w.heap.size w W) v hv=>wU W V L (h.below hb) hg v a hv);obtain⟨a1,c1,a2,c2,a3,c3,a4,c4,a5,c5,a6,c6,a7,c7,a8,c8,e1,e2,e3,e4,e5,e6,e7,e8⟩:=bK.opened h;have EV:=zq (And.intro e1 (And.intro e2 (And.intro e3 (And.intro e4 (And.intro e5 (And.intro e6 (And.intro e7 e8)))))));unfold aB.val aB.cells at CNT ⊢;rw[e1,e2,e3,e4,e5,e6,e7,e8] at CNT ⊢;obtain⟨n1,hn1⟩:=Zn L.aQ.length;obtain⟨n2,hn2⟩:=Zn L.ah.length;obtain⟨n3,hn3⟩:=Zn L.af.length;obtain⟨n4,hn4⟩:=Zn L.ai.length;obtain⟨n5,hn5⟩:=Zn L.au.length;obtain⟨n6,hn6⟩:=Zn L.orders.length;obtain⟨n7,hn7⟩:=Zn L.aG.length;obtain⟨n8,hn8⟩:=Zn L.aJ.length;have m1:n1<=4:=by have:=hg.things.c1;omega
 have m2:n2<=6:=by have:=hg.things.u1;omega
 have m4:n4<=16:=by have:=hg.accounts.tree.hi;simp only[List.length_map] at this;omega
 have L1:=zq hn1;have L2:=zq hn2;have L4:=zq hn4;rw[<-hn1,<-hn2,<-hn3,<-hn4,<-hn5,<-hn6,<-hn7,<-hn8] at CNT EV ⊢;have B0:=zq (show Below w.heap.size w (w.alloc (.cells #[.int .i64 L.day,.slice a1 n1 c1,.slice a2 n2 c2,.slice a3 n3 c3,.slice a4 n4 c4,.slice a5 n5 c5,.slice a6 n6 c6,.slice a7 n7 c7,.slice a8 n8 c8] 31))/\aY (w.alloc (.cells #[.int .i64 L.day,.slice a1 n1 c1,.slice a2 n2 c2,.slice a3 n3 c3,.slice a4 n4 c4,.slice a5 n5 c5,.slice a6 n6 c6,.slice a7 n7 c7,.slice a8 n8 c8] 31)) w.heap.size #[.int .i64 L.day,.slice a1 n1 c1,.slice a2 n2 c2,.slice a3 n3 c3,.slice a4 n4 c4,.slice a5 n5 c5,.slice a6 n6 c6,.slice a7 n7 c7,.slice a8 n8 c8] from ⟨Zb,aY.new _ _ _⟩);clear h hg hR e1 e2 e3 e4 e5 e6 e7 e8 hn1 hn2 hn3 hn4 hn5 hn6 hn7 hn8
 go_enter Tryz.func160,Tryz.ntmps160
 go_upto_region 1 with (fail)
 obtain⟨W0,hW0⟩:=Zn (w.alloc (.cells #[.int .i64 L.day,.slice a1 n1 c1,.slice a2 n2 c2,.slice a3 n3 c3,.slice a4 n4 c4,.slice a5 n5 c5,.slice a6 n6 c6,.slice a7 n7 c7,.slice a8 n8 c8] 31));rw[<-hW0] at B0 ⊢;obtain⟨hb,hhb⟩:=Zn w.heap.size;have C0:=zq (show Below w.heap.size w W0/\aY W0 hb #[.int .i64 L.day,.slice a1 n1 c1,.slice a2 n2 c2,.slice a3 n3 c3,.slice a4 n4 c4,.slice a5 n5 c5,.slice a6 n6 c6,.slice a7 n7 c7,.slice a8 n8 c8] from ⟨B0.o.1,by rw[hhb];exact B0.o.2⟩);rw[<-hhb];clear hW0 hhb B0;have dd:=C0.o.2.at_ 1 _ rfl
 go_wp2_with fail
 clear dd
 go_loopw [6,17] (fun al i wr=>∃ (k:Nat) (x:Int),k<=n1/\i=.int .i64 k/\al=.int .i64 x/\Below w.heap.size w wr/\aY wr hb #[.int .i64 L.day,.slice a1 n1 c1,.slice a2 n2 c2,.slice a3 n3 c3,.slice a4 n4 c4,.slice a5 n5 c5,.slice a6 n6 c6,.slice a7 n7 c7,.slice a8 n8 c8]/\Hid (R=jD L a k (L.aQ.drop k) x)) (fun _ i _=>n1 - (intOf i).toNat)
 case atStart=>exact⟨0,0,Nat.zero_le _,rfl,rfl,C0.o.1,C0.o.2,zq EQ.o⟩
 obtain⟨k,x,hk,rfl,rfl,hbw,hbx,KEY⟩:=hrel;have TT:=zq (And.intro hbw hbx);clear hbw hbx;by_cases hlt:k<n1
 ·obtain⟨c,hcr⟩:∃ c,L.aQ[k]?=some c:=⟨_,Zg (by have:=L1.o;omega)⟩;have row:RowOf wr 2 gu.cells (.slice a1 n1 c1) L.aQ:=by have:=(HL.o.below TT.o.1).aQ;rw[EV.o.1] at this;exact this
  obtain⟨qb,qo,ea1,hbl,hc⟩:=row.at_ hcr;have COK:=zq (HG.o.things.aQ k c hcr);have u0:=hc 0 (.int .i64 c.rate) rfl;have u1:=hc 1 (.int .i64 c.dL) rfl;rw[Nat.add_zero] at u0;have DK:=zq (drop_cons hcr);have LT:=zq hlt;have HK:=zq (show k<L.aQ.length from by have:=L1.o;omega);have hlt':(k:Int)<(n1:Int):=by omega
  have k0:(0:Int)<=(k:Int):=by omega
  subst ea1;clear row hc hcr hbl hlt;obtain⟨W1,hW1⟩:=Zn (wr.alloc (.cells #[.int .i64 c.rate,.int .i64 c.dL] 86));have TB:=zq (show Below w.heap.size w W1/\aY W1 hb #[.int .i64 L.day,.slice (some ⟨qb,qo,none⟩) n1 c1,.slice a2 n2 c2,.slice a3 n3 c3,.slice a4 n4 c4,.slice a5 n5 c5,.slice a6 n6 c6,.slice a7 n7 c7,.slice a8 n8 c8]/\aY W1 wr.heap.size #[.int .i64 c.rate,.int .i64 c.dL] from by
   rw[hW1];have b:=(Below.refl wr.heap.size wr).alloc (Nat.le_refl _) (.cells #[.int .i64 c.rate,.int .i64 c.dL] 86);exact⟨TT.o.1.trans (b.mono TT.o.1.size),TT.o.2.below b,aY.new _ _ _⟩)
  obtain⟨wo,rfl⟩:=Zn wr
  go_upto_region 5 with (fail)
  rw[<-hW1];obtain⟨h8,hh8⟩:=Zn wo.heap.size;rw[<-hh8] at TB ⊢;clear hW1 hh8 u0 u1;have y4:=TB.o.2.1.at_ 4 _ rfl
  go_wp2_with fail
  clear y4
  go_loopw [9,25] (fun cv i wr=>∃ (n:Nat) (y:Int),n<=n4/\i=.int .i64 n/\cv=.int .i64 y/\Below w.heap.size w wr/\aY wr hb #[.int .i64 L.day,.slice (some ⟨qb,qo,none⟩) n1 c1,.slice a2 n2 c2,.slice a3 n3 c3,.slice a4 n4 c4,.slice a5 n5 c5,.slice a6 n6 c6,.slice a7 n7 c7,.slice a8 n8 c8]/\aY wr h8 #[.int .i64 c.rate,.int .i64 c.dL]/\Hid (aO y=true)/\Hid (iU k (L.under a) 0=iU k (tY L a n) y)) (fun _ i _=>n4 - (intOf i).toNat)
  case atStart=>exact⟨0,0,Nat.zero_le _,rfl,rfl,TB.o.1,TB.o.2.1,TB.o.2.2,zq (by decide),zq (by rw[Gu])⟩
  obtain⟨n,y,hn,rfl,rfl,hb1,hb2,hb3,FY,WK⟩:=hrel;have TI:=zq (And.intro hb1 (And.intro hb2 hb3));clear hb1 hb2 hb3;by_cases hl2:n<n4
  ·have hl2':(n:Int)<(n4:Int):=by omega
   have hvl:n<V.ac.length:=by have h1:=HL.o.same;have h2:=congrArg List.length h1;rw[List.length_map] at h2;have:=L4.o;omega
   obtain⟨p,hp⟩:∃ p,V.ac[n]?=some p:=⟨_,List.getElem?_eq_getElem hvl⟩;have hpl:L.ai[n]?=some p.1:=by rw[HL.o.same,List.getElem?_map,hp];rfl
   have aok:=HG.o.accounts.ai n p.1 hpl;have rowa:RowOf wr 4 Acc.cells (.slice a4 n4 c4) V.ac:=by have:=(HL.o.below TI.o.1).ai;rw[EV.o.2.2.2.1] at this;exact this
   obtain⟨ab,ao,ea4,_,hac⟩:=rowa.at_ hp;have rowc:=fun W hb=>(HL.o.below (w':=W) hb).aT p (List.mem_of_getElem? hp)
   obtain⟨a7',c7',e7⟩:=(rowc wr TI.o.1).form;obtain⟨z,hz⟩:∃ z,p.1.aT[k]?=some z:=⟨_,Zg (by have:=aok.1;have:=HK.o;omega)⟩;have rowc':∀ W,Below w.heap.size w W->RowOf W 1 dw (.slice a7' p.1.aT.length c7') p.1.aT:=fun W hb=>by have:=rowc W hb;rw[e7] at this;exact this
   obtain⟨kb,ko,ea7,_,_⟩:=(rowc' wr TI.o.1).at_ hz;have ZC:=zq (show ∀ W,Below w.heap.size w W->W.cell? ⟨kb,ko+k,none⟩=some (.int .i64 z) from fun W hb=>by
    obtain⟨b',o',e,_,hcc⟩:=(rowc' W hb).at_ hz;rw[ea7] at e
    cases e
    have:=hcc 0 _ rfl;rw[Nat.add_zero,Nat.mul_one] at this;exact this)
   have v0:=hac 0 (.int .i64 p.1.parent) rfl;have v1:=hac 1 p.2 rfl;have v2:=hac 2 (.bool p.1.flag) rfl;have v3:=hac 3 (.int .i64 p.1.last) rfl;rw[Nat.add_zero] at v0;rw[e7] at v1;have kl:(k:Int)<(p.1.aT.length:Int):=by have:=aok.1;have:=HK.o;omega
   have ZF:=zq (show aO z=true from aok.2.2.2.2 z (List.mem_of_getElem? hz));have GD:=zq (show p.1.aT.getD k 0=z from by rw[List.getD_eq_getElem?_getD,hz];rfl);have RS:=zq (Gt L a n hpl);have CN:=zq (fun W hb=>CNT.o W hb n hl2);obtain⟨B2,hB2⟩:=Zn (gq L.parents a n);rw[<-hB2] at CN RS;obtain⟨KN,hKN⟩:=Zn p.1.aT.length;rw[<-hKN] at kl v1;have LT2:=zq hl2;subst ea4 ea7;clear hB2 hvl hp hpl aok rowa hac rowc rowc' e7 hz hKN hl2 hn;obtain⟨W2,hW2⟩:=Zn (wr.alloc (.cells #[.int .i64 p.1.parent,.slice (some ⟨kb,ko,none⟩) KN c7',.bool p.1.flag,.int .i64 p.1.last] 52));have X2:=zq (show Below w.heap.size w W2/\aY W2 hb #[.int .i64 L.day,.slice (some ⟨qb,qo,none⟩) n1 c1,.slice a2 n2 c2,.slice a3 n3 c3,.slice (some ⟨ab,ao,none⟩) n4 c4,.slice a5 n5 c5,.slice a6 n6 c6,.slice a7 n7 c7,.slice a8 n8 c8]/\aY W2 h8 #[.int .i64 c.rate,.int .i64 c.dL]/\aY W2 wr.heap.size #[.int .i64 p.1.parent,.slice (some ⟨kb,ko,none⟩) KN c7',.bool p.1.flag,.int .i64 p.1.last] from by
    rw[hW2];have b:=(Below.refl wr.heap.size wr).alloc (Nat.le_refl _) (.cells #[.int .i64 p.1.parent,.slice (some ⟨kb,ko,none⟩) KN c7',.bool p.1.flag,.int .i64 p.1.last] 52);exact⟨TI.o.1.trans (b.mono TI.o.1.size),TI.o.2.1.below b,TI.o.2.2.below b,aY.new _ _ _⟩)
   go_upto_region 10 with (fail)
   rw[<-hW2];obtain⟨h12,hh12⟩:=Zn wr.heap.size;rw[<-hh12] at X2 ⊢;clear hW2 hh12 v0 v1 v2 v3;have y0:W2.cell? ⟨hb,0,none⟩=some (.int .i64 L.day):=X2.o.2.1.at_ 0 _ rfl;have y1:W2.cell? ⟨hb,1,none⟩=some (.slice (some ⟨qb,qo,none⟩) n1 c1):=X2.o.2.1.at_ 1 _ rfl;have y2:W2.cell? ⟨hb,2,none⟩=some (.slice a2 n2 c2):=X2.o.2.1.at_ 2 _ rfl;have y3:W2.cell? ⟨hb,3,none⟩=some (.slice a3 n3 c3):=X2.o.2.1.at_ 3 _ rfl;have y4:W2.cell? ⟨hb,4,none⟩=some (.slice (some ⟨ab,ao,none⟩) n4 c4):=X2.o.2.1.at_ 4 _ rfl;have y5:W2.cell? ⟨hb,5,none⟩=some (.slice a5 n5 c5):=X2.o.2.1.at_ 5 _ rfl;have y6:W2.cell? ⟨hb,6,none⟩=some (.slice a6 n6 c6):=X2.o.2.1.at_ 6 _ rfl;have y7:W2.cell? ⟨hb,7,none⟩=some (.slice a7 n7 c7):=X2.o.2.1.at_ 7 _ rfl;have y8:W2.cell? ⟨hb,8,none⟩=some (.slice a8 n8 c8):=X2.o.2.1.at_ 8 _ rfl
   go_wp2_with fail
   refine (CN.o _ X2.o.1).mono ?_;rintro e w3 ⟨rfl,hb3⟩;have X3:=zq (show Below w.heap.size w w3/\aY w3 hb #[.int .i64 L.day,.slice (some ⟨qb,qo,none⟩) n1 c1,.slice a2 n2 c2,.slice a3 n3 c3,.slice (some ⟨ab,ao,none⟩) n4 c4,.slice a5 n5 c5,.slice a6 n6 c6,.slice a7 n7 c7,.slice a8 n8 c8]/\aY w3 h8 #[.int .i64 c.rate,.int .i64 c.dL]/\aY w3 h12 #[.int .i64 p.1.parent,.slice (some ⟨kb,ko,none⟩) KN c7',.bool p.1.flag,.int .i64 p.1.last] from ⟨X2.o.1.trans (hb3.mono X2.o.1.size),X2.o.2.1.below hb3,X2.o.2.2.1.below hb3,X2.o.2.2.2.below hb3⟩);clear hb3 y0 y1 y2 y3 y4 y5 y6 y7 y8
   cases B2
   ·go_wp2_with fail
    go_roundw
    case rel=>exact⟨n+1,y,by have:=LT2.o;omega,by go_num,rfl,X3.o.1,X3.o.2.1,X3.o.2.2.1,FY,zq (by rw[WK.o,RS.o];rfl)⟩
    case measure=>have:=LT2.o;simp[intOf];omega
   have AC:=zq (fun W=>oq y z W);have AE:=zq (qQ y z);have AO:=zq (show kC y (p.1.aT.getD k 0)=iG (dQ y z) from by rw[GD.o];rfl);obtain⟨AR,hAR⟩:=Zn (dQ y z);rw[<-hAR] at AC AE AO;have g1:w3.cell? ⟨h12,1,none⟩=some (.slice (some ⟨kb,ko,none⟩) KN c7'):=X3.o.2.2.2.at_ 1 _ rfl;have gz:=ZC.o w3 X3.o.1;clear hAR
   go_wp2_with fail
   refine (AC.o _).mono ?_;rintro e w' ⟨rfl,rfl⟩;clear g1 gz;rcases Or.symm AE.o with hy|⟨hy,hf⟩
   ·have HY:=zq (show kC y (p.1.aT.getD k 0)=none from by rw[AO.o,hy];rfl);subst hy
    go_wp2_with fail
    go_ret2;exact⟨by rw[KEY.o,DK.o,vC (by rw[WK.o,RS.o,if_pos trivial];exact uY HY.o)];rfl,X3.o.1⟩
   have HY:=zq (show kC y (p.1.aT.getD k 0)=some AR.1 from by rw[AO.o];unfold iG;rw[if_pos hy]);have hy':(AR.2 != 0)=false:=by rw[bne_eq_false_iff_eq];exact hy
   have FA:=zq hf;clear hy hf
   go_wp2_with fail
   go_roundw
   case rel=>exact⟨n+1,AR.1,by have:=LT2.o;omega,by go_num,rfl,X3.o.1,X3.o.2.1,X3.o.2.2.1,FA,zq (by rw[WK.o,RS.o,if_pos trivial];exact uX HY.o)⟩
   case measure=>have:=LT2.o;simp[intOf];omega
  have hl2':¬ (n:Int)<(n4:Int):=by omega
  have CG:=zq (show iU k (L.under a) 0=some y from by rw[WK.o,JX L a (by have:=L4.o;omega)];rfl);have WC:=zq (fun W=>GY c k COK.o y (I64.bU FY.o) W);have WE:=zq (zM c y);have WO:=zq (yt c y);obtain⟨WR,hWR⟩:=Zn (jh c y);rw[<-hWR] at WC WE WO;have f0:wr.cell? ⟨h8,0,none⟩=some (.int .i64 c.rate):=TI.o.2.2.at_ 0 _ rfl;have f1:wr.cell? ⟨h8,1,none⟩=some (.int .i64 c.dL):=TI.o.2.2.at_ 1 _ rfl;clear hWR hl2 hn
  go_wp2_with fail
  refine (WC.o _).mono ?_;rintro e w4 ⟨rfl,hb4⟩;have X4:=zq (show Below w.heap.size w w4/\aY w4 hb #[.int .i64 L.day,.slice (some ⟨qb,qo,none⟩) n1 c1,.slice a2 n2 c2,.slice a3 n3 c3,.slice a4 n4 c4,.slice a5 n5 c5,.slice a6 n6 c6,.slice a7 n7 c7,.slice a8 n8 c8] from ⟨TI.o.1.trans (hb4.mono TI.o.1.size),TI.o.2.1.below hb4⟩);clear hb4 f0 f1;rcases Or.symm WE.o with hz|⟨hz,hf⟩
  ·have HZ:=zq (show mM c y=none from by rw[WO.o,hz];rfl);subst hz
   go_wp2_with fail
   go_ret2;exact⟨by rw[KEY.o,DK.o,vz CG.o HZ.o];rfl,X4.o.1⟩
  have HZ:=zq (show mM c y=some WR.1 from by rw[WO.o];unfold iG;rw[if_pos hz]);have hz':(WR.2 != 0)=false:=by rw[bne_eq_false_iff_eq];exact hz
  have AC:=zq (fun W=>oq x WR.1 W);have AE:=zq (qQ x WR.1);have AO:=zq (show kC x WR.1=iG (dQ x WR.1) from rfl);obtain⟨AR,hAR⟩:=Zn (dQ x WR.1);rw[<-hAR] at AC AE AO;clear hAR hz hf
  go_wp2_with fail
  refine (AC.o _).mono ?_;rintro e w' ⟨rfl,rfl⟩;rcases Or.symm AE.o with hy|⟨hy,hf⟩
  ·have HY:=zq (show kC x WR.1=none from by rw[AO.o,hy];rfl);subst hy
   go_wp2_with fail
   go_ret2;exact⟨by rw[KEY.o,DK.o,vG CG.o HZ.o HY.o];rfl,X4.o.1⟩
  have HY:=zq (show kC x WR.1=some AR.1 from by rw[AO.o];unfold iG;rw[if_pos hy]);have hy':(AR.2 != 0)=false:=by rw[bne_eq_false_iff_eq];exact hy
  clear hy hf
  go_wp2_with fail
  go_roundw
  case rel=>exact⟨k+1,AR.1,by have:=LT.o;omega,by go_num,rfl,X4.o.1,X4.o.2,zq (by rw[KEY.o,DK.o,vF CG.o HZ.o HY.o])⟩
  case measure=>have:=LT.o;simp[intOf];omega
 have hlt':¬ (k:Int)<(n1:Int):=by omega
 go_wp2_with fail
 go_ret2;exact⟨by rw[KEY.o,List.drop_of_length_le (by have:=L1.o;omega)];rfl,TT.o.1⟩
theorem Dv (w:World) (V:aB) (L:aH) (h:bK w V L) (hg:L.Good) (a:Nat) :
 Calls Tryz.prog 120 #[V.val L,.int .i64 (a:Int)] w fun e w'=>e=.returned (.tuple #[.int .i64 (retA (dN L a)).1,.int .i64 (retA (dN L a)).2])/\Below w.heap.size w w':=by
 obtain⟨R,hR⟩:=Zn (dN L a);have EQ:=zq hR;rw[<-hR];have NH:=zq (And.intro (fun W (hb:Below w.heap.size w W)=>J6 W V L (h.below hb) hg a) (fun W (hb:Below w.heap.size w W)=>J3 W V L (h.below hb) hg a));obtain⟨a1,c1,a2,c2,a3,c3,a4,c4,a5,c5,a6,c6,a7,c7,a8,c8,e1,e2,e3,e4,e5,e6,e7,e8⟩:=bK.opened h;have EV:=zq (And.intro e1 (And.intro e2 (And.intro e3 (And.intro e4 (And.intro e5 (And.intro e6 (And.intro e7 e8)))))));unfold aB.val aB.cells at NH ⊢;rw[e1,e2,e3,e4,e5,e6,e7,e8] at NH ⊢;obtain⟨n1,hn1⟩:=Zn L.aQ.length;obtain⟨n2,hn2⟩:=Zn L.ah.length;obtain⟨n3,hn3⟩:=Zn L.af.length;obtain⟨n4,hn4⟩:=Zn L.ai.length;obtain⟨n5,hn5⟩:=Zn L.au.length;obtain⟨n6,hn6⟩:=Zn L.orders.length;obtain⟨n7,hn7⟩:=Zn L.aG.length;obtain⟨n8,hn8⟩:=Zn L.aJ.length;have m1:n1<=4:=by have:=hg.things.c1;omega
 have m2:n2<=6:=by have:=hg.things.u1;omega
 have m4:n4<=16:=by have:=hg.accounts.tree.hi;simp only[List.length_map] at this;omega
 have L1:=zq hn1;have L2:=zq hn2;have L4:=zq hn4;rw[<-hn1,<-hn2,<-hn3,<-hn4,<-hn5,<-hn6,<-hn7,<-hn8] at NH EV ⊢;have B0:=zq (show Below w.heap.size w (w.alloc (.cells #[.int .i64 L.day,.slice a1 n1 c1,.slice a2 n2 c2,.slice a3 n3 c3,.slice a4 n4 c4,.slice a5 n5 c5,.slice a6 n6 c6,.slice a7 n7 c7,.slice a8 n8 c8] 31))/\aY (w.alloc (.cells #[.int .i64 L.day,.slice a1 n1 c1,.slice a2 n2 c2,.slice a3 n3 c3,.slice a4 n4 c4,.slice a5 n5 c5,.slice a6 n6 c6,.slice a7 n7 c7,.slice a8 n8 c8] 31)) w.heap.size #[.int .i64 L.day,.slice a1 n1 c1,.slice a2 n2 c2,.slice a3 n3 c3,.slice a4 n4 c4,.slice a5 n5 c5,.slice a6 n6 c6,.slice a7 n7 c7,.slice a8 n8 c8] from ⟨Zb,aY.new _ _ _⟩);clear h hg hR e1 e2 e3 e4 e5 e6 e7 e8 hn1 hn2 hn3 hn4 hn5 hn6 hn7 hn8
 go_enter Tryz.func120,Tryz.ntmps120
 go_upto_region 1 with (fail)
 obtain⟨W0,hW0⟩:=Zn (w.alloc (.cells #[.int .i64 L.day,.slice a1 n1 c1,.slice a2 n2 c2,.slice a3 n3 c3,.slice a4 n4 c4,.slice a5 n5 c5,.slice a6 n6 c6,.slice a7 n7 c7,.slice a8 n8 c8] 31));rw[<-hW0] at B0 ⊢;obtain⟨hb,hhb⟩:=Zn w.heap.size;have C0:=zq (show Below w.heap.size w W0/\aY W0 hb #[.int .i64 L.day,.slice a1 n1 c1,.slice a2 n2 c2,.slice a3 n3 c3,.slice a4 n4 c4,.slice a5 n5 c5,.slice a6 n6 c6,.slice a7 n7 c7,.slice a8 n8 c8] from ⟨B0.o.1,by rw[hhb];exact B0.o.2⟩);rw[<-hhb];clear hW0 hhb B0;have y0:W0.cell? ⟨hb,0,none⟩=some (.int .i64 L.day):=C0.o.2.at_ 0 _ rfl;have y1:W0.cell? ⟨hb,1,none⟩=some (.slice a1 n1 c1):=C0.o.2.at_ 1 _ rfl;have y2:W0.cell? ⟨hb,2,none⟩=some (.slice a2 n2 c2):=C0.o.2.at_ 2 _ rfl;have y3:W0.cell? ⟨hb,3,none⟩=some (.slice a3 n3 c3):=C0.o.2.at_ 3 _ rfl;have y4:W0.cell? ⟨hb,4,none⟩=some (.slice a4 n4 c4):=C0.o.2.at_ 4 _ rfl;have y5:W0.cell? ⟨hb,5,none⟩=some (.slice a5 n5 c5):=C0.o.2.at_ 5 _ rfl;have y6:W0.cell? ⟨hb,6,none⟩=some (.slice a6 n6 c6):=C0.o.2.at_ 6 _ rfl;have y7:W0.cell? ⟨hb,7,none⟩=some (.slice a7 n7 c7):=C0.o.2.at_ 7 _ rfl;have y8:W0.cell? ⟨hb,8,none⟩=some (.slice a8 n8 c8):=C0.o.2.at_ 8 _ rfl
 go_wp2_with fail
 refine (NH.o.2 _ C0.o.1).mono ?_;rintro e w1 ⟨rfl,hb1⟩;have X1:=zq (show Below w.heap.size w w1/\aY w1 hb #[.int .i64 L.day,.slice a1 n1 c1,.slice a2 n2 c2,.slice a3 n3 c3,.slice a4 n4 c4,.slice a5 n5 c5,.slice a6 n6 c6,.slice a7 n7 c7,.slice a8 n8 c8] from ⟨C0.o.1.trans (hb1.mono C0.o.1.size),C0.o.2.below hb1⟩);clear hb1 y0 y1 y2 y3 y4 y5 y6 y7 y8
 cases hho:vH L a with
 | none =>
   have HN:=zq hho;clear hho
   simp only[retA]
   go_wp2_with fail
   go_ret2;exact⟨by rw[EQ.o];unfold dN;rw[HN.o];rfl,X1.o.1⟩
 | some x =>
   have HN:=zq hho;clear hho
   simp only[retA]
   have y0:w1.cell? ⟨hb,0,none⟩=some (.int .i64 L.day):=X1.o.2.at_ 0 _ rfl;have y1:w1.cell? ⟨hb,1,none⟩=some (.slice a1 n1 c1):=X1.o.2.at_ 1 _ rfl;have y2:w1.cell? ⟨hb,2,none⟩=some (.slice a2 n2 c2):=X1.o.2.at_ 2 _ rfl;have y3:w1.cell? ⟨hb,3,none⟩=some (.slice a3 n3 c3):=X1.o.2.at_ 3 _ rfl;have y4:w1.cell? ⟨hb,4,none⟩=some (.slice a4 n4 c4):=X1.o.2.at_ 4 _ rfl;have y5:w1.cell? ⟨hb,5,none⟩=some (.slice a5 n5 c5):=X1.o.2.at_ 5 _ rfl;have y6:w1.cell? ⟨hb,6,none⟩=some (.slice a6 n6 c6):=X1.o.2.at_ 6 _ rfl;have y7:w1.cell? ⟨hb,7,none⟩=some (.slice a7 n7 c7):=X1.o.2.at_ 7 _ rfl;have y8:w1.cell? ⟨hb,8,none⟩=some (.slice a8 n8 c8):=X1.o.2.at_ 8 _ rfl
   go_wp2_with fail
   refine (NH.o.1 _ X1.o.1).mono ?_;rintro e w2 ⟨rfl,hb2⟩;have X2:=zq (show Below w.heap.size w w2 from X1.o.1.trans (hb2.mono X1.o.1.size));clear hb2 y0 y1 y2 y3 y4 y5 y6 y7 y8
   cases hno:pI L a with
   | none =>
     have HM:=zq hno;clear hno
     simp only[retA]
     go_wp2_with fail
     go_ret2;have EN:=zq (show R=none from by rw[EQ.o];unfold dN;rw[HN.o];show (pI L a).bind _=none;rw[HM.o];rfl);exact⟨by rw[EN.o];rfl,X2.o⟩
   | some y =>
     have HM:=zq hno;clear hno
     simp only[retA]
     have FS:=zq (fun W=>qK x y W);have SO:=zq (show retA R=fK x y from by
      rw[EQ.o];unfold dN;rw[HN.o]
      show retA ((pI L a).bind fun n=>lm x n)=_
      rw[HM.o];exact Du (qZ x y))
     obtain⟨SR,hSR⟩:=Zn (fK x y);rw[<-hSR] at FS SO;clear hSR
     go_wp2_with fail
     refine (FS.o _).mono ?_;rintro e w' ⟨rfl,rfl⟩
     go_wp2_with fail
     go_ret2;exact⟨by rw[SO.o];rfl,X2.o⟩
end Go.Proofs.YtcepekniflaoaaaGreatDoor
