/- Joined: Fx, Div, FxD, FxP. -/
import Derived.Test.YtcepekniflaoaaaGreatDoorProg
import Derived.Test.YtcepekniflaoaaaGreatDoorMLib
import Derived.Test.YtcepekniflaoaaaGreatDoorGa
import Derived.Test.YtcepekniflaoaaaGreatDoorGb
import Derived.IntWalk
import Derived.Deep.Cut
import Derived.Deep.CutBlock
set_option linter.unusedVariables false
set_option linter.unusedSimpArgs false
set_option maxRecDepth 100000
set_option maxHeartbeats 1000000
namespace Go.Proofs.YtcepekniflaoaaaGreatDoor
open Go.RowKit Go.Bw Go.Maps
theorem aj {a b:Bool} (h:a=b):Ending.returned (.bool a)=.returned (.bool b):=by rw[h]
theorem gQ {k:IntKind} {a b:Int} (h:a=b):Ending.returned (.int k a)=.returned (.int k b):=by rw[h]
theorem bP {k j:IntKind} {a b c d:Int} (h:a=c) (h':b=d):Ending.returned (.tuple #[.int k a,.int j b])=.returned (.tuple #[.int k c,.int j d]):=by rw[h,h']
theorem wrap_u64 (n:Int):IntKind.u64.wrap n=n % 18446744073709551616:=by simp[IntKind.wrap,IntKind.bits,IntKind.signed]
structure I64 (x:Int):Prop where
 lo:-9223372036854775808<=x
 hi:x<=9223372036854775807
theorem I64.bU {x:Int} (h:aO x=true):I64 x:=by have:=aF.1 h;exact⟨by omega,by omega⟩
theorem ja (x:Int) (h:I64 x) (w:World):Calls Tryz.prog 66 #[.int .i64 x] w fun e w'=>e=.returned (.int .u64 (x.natAbs:Nat))/\w=w':=by
 have H:=zq h;clear h;by_cases hx:x<0
 ·go_enter Tryz.func66,Tryz.ntmps66
  go_wp2_with fail
  go_ret;exact⟨gQ (by have:=H.o.lo;rw[wrap_u64,wrap_u64];omega),rfl⟩
 go_enter Tryz.func66,Tryz.ntmps66
 go_wp2_with fail
 go_ret;exact⟨gQ (by have:=H.o.hi;rw[wrap_u64];omega),rfl⟩
theorem yZ (x:Int) (h:I64 x) (w:World):Calls Tryz.prog 64 #[.int .i64 x] w fun e w'=>e=.returned (.bool (aO x))/\w=w':=by
 have H:=zq h;clear h
 go_enter Tryz.func64,Tryz.ntmps64
 go_wp2_with fail
 refine (ja x H.o w).mono ?_;rintro e w' ⟨rfl,rfl⟩
 go_wp2_with fail
 go_ret;exact⟨aj (by unfold aO;apply decide_eq_decide.2;omega),rfl⟩
theorem dF (high low:Nat) (neg:Bool) (w:World) (hl:low<18446744073709551616) :
 Calls Tryz.prog 69 #[.int .u64 high,.int .u64 low,.bool neg] w fun e w'=>e=.returned (.tuple #[.int .i64 (kF (high*18446744073709551616+low) neg).1,.int .i64 (kF (high*18446744073709551616+low) neg).2])/\w=w':=by
 by_cases h:0<high\/4611686018427387904<low
 ·have E:=zq (nY (q:=high*18446744073709551616+low) (neg:=neg) (by omega));rw[E.o];rcases h with h|h
  all_goals
   have h':=Int.ofNat_lt.2 h
   go_enter Tryz.func69,Tryz.ntmps69
   go_wp2_with fail
   all_goals (go_ret2;exact⟨rfl,rfl⟩)
 have hh:high=0:=by omega
 subst hh;have hlo:low<=4611686018427387904:=by omega
 have E:=zq (uM (neg:=neg) hlo);rw[Nat.zero_mul,Nat.zero_add,E.o];clear h;have hlo':(low:Int)<=4611686018427387904:=by omega
 cases neg
 ·go_enter Tryz.func69,Tryz.ntmps69
  go_wp2_with fail
  go_ret2;exact⟨bP (by first|(simp[IntKind.wrap_i64];done)|(simp[IntKind.wrap_i64];omega)) rfl,rfl⟩
 go_enter Tryz.func69,Tryz.ntmps69
 go_wp2_with fail
 go_ret2;exact⟨bP (by first|(simp[IntKind.wrap_i64];done)|(simp[IntKind.wrap_i64];omega)) rfl,rfl⟩
theorem dK {x:Int} (h:I64 x) {b:Bool} (hb:aO x=b) (w:World):Calls Tryz.prog 64 #[.int .i64 x] w fun e w'=>e=.returned (.bool b)/\w=w':=by
 rw[<-hb];exact yZ x h w
theorem qR {a b:Int} (h:aO a=false\/aO b=false):dQ a b=(0,4):=by
 unfold dQ;rw[if_neg];rintro⟨h1,h2,_⟩;rcases h with h|h <;> simp_all
theorem Ja {a b:Int} (ha:aO a=true) (hb:aO b=true) (hs:(a<0)=(b<0)):kF (a.natAbs+b.natAbs) (decide (a<0))=dQ a b:=by
 have h1:=aF.1 ha;have h2:=aF.1 hb;have hs':a<0↔b<0:=by rw[hs]
 by_cases h:aO (a+b)=true
 ·have h3:=aF.1 h;rw[uM (by omega)];unfold dQ;by_cases hn:a<0
  ·simp[hn,ha,hb,h];omega
  simp[hn,ha,hb,h];omega
 have h3:=kQ.1 (by simpa using h);rw[nY (by omega)];unfold dQ;rw[if_neg (fun x=>h x.2.2)]
theorem En {a b:Int} (ha:aO a=true) (hb:aO b=true) (hs:¬ (a<0↔b<0)):dQ a b=(a+b,0):=by
 have h1:=aF.1 ha;have h2:=aF.1 hb;unfold dQ;rw[if_pos ⟨ha,hb,aF.2 (by omega)⟩]
theorem lZ (a b:Int) (ha:I64 a) (hb:I64 b) (w:World) :
 Calls Tryz.prog 111 #[.int .i64 a,.int .i64 b] w fun e w'=>e=.returned (.tuple #[.int .i64 (dQ a b).1,.int .i64 (dQ a b).2])/\w=w':=by
 have HA:=zq ha;have HB:=zq hb;clear ha hb;obtain⟨R,hR⟩:=Zn (dQ a b);rw[<-hR]
 cases hfa:aO a with
 | false =>
   have ER:=zq (hR.trans (qR (Or.inl hfa)));have FA:=zq hfa;clear hR hfa
   go_enter Tryz.func111,Tryz.ntmps111
   go_wp2_with (go_at_call 64;refine (dK HA.o FA.o _).mono ?_;rintro e w' ⟨rfl,rfl⟩)
   go_ret2;rw[ER.o];exact⟨rfl,rfl⟩
 | true =>
 cases hfb:aO b with
 | false =>
   have ER:=zq (hR.trans (qR (Or.inr hfb)));have FA:=zq hfa;have FB:=zq hfb;clear hR hfa hfb
   go_enter Tryz.func111,Tryz.ntmps111
   go_wp2_with fail
   refine (dK HA.o FA.o _).mono ?_;rintro e w' ⟨rfl,rfl⟩
   go_wp2_with fail
   refine (dK HB.o FB.o _).mono ?_;rintro e w' ⟨rfl,rfl⟩
   go_wp2_with fail
   go_ret2;rw[ER.o];exact⟨rfl,rfl⟩
 | true =>
 have b1:=aF.1 hfa;have b2:=aF.1 hfb;have FA:=zq hfa;have FB:=zq hfb;have B1:=zq b1;have B2:=zq b2;have HR:=zq hR;clear hR hfa hfb b1 b2;obtain⟨x,hx⟩:=Zn a.natAbs;obtain⟨y,hy⟩:=Zn b.natAbs;have hadd:∀ w,(callFunc 68 #[.int .u64 x,.int .u64 y,.int .u64 0]).run Tryz.prog w=.ok (.value (.tuple #[.int .u64 (((x+y+0) % 18446744073709551616:Nat):Int),.int .u64 (((x+y+0) / 18446744073709551616:Nat):Int)])) w:=fun w=>Tryz.lib_add64 x y 0 (by omega) w
 obtain⟨lo,hlo⟩:=Zn ((x+y+0) % 18446744073709551616);obtain⟨hi,hhi⟩:=Zn ((x+y+0) / 18446744073709551616);rw[<-hlo,<-hhi] at hadd;have E:=zq (show hi*18446744073709551616+lo=a.natAbs+b.natAbs from by omega);have L:=zq (show lo<18446744073709551616 from by omega);have X:=zq hx;have Y:=zq hy;clear hx hy hlo hhi;have four:(a<0/\b<0\/¬ a<0/\¬ b<0)\/(a<0/\¬ b<0\/¬ a<0/\b<0):=by omega
 rcases four with four|four
 ·rcases four with ⟨hna,hnb⟩|⟨hna,hnb⟩
  all_goals
   have er0:=HR.o.trans (Ja FA.o FB.o (by simp[hna,hnb])).symm
   simp only[hna,decide_true,decide_false] at er0
   have ER:=zq er0;clear er0;have hq:(decide (a<0)==decide (b<0))=true:=by simp[hna,hnb]
   go_enter Tryz.func111,Tryz.ntmps111
   go_wp2_with fail
   refine (dK HA.o FA.o _).mono ?_;rintro e w' ⟨rfl,rfl⟩
   go_wp2_with fail
   refine (dK HB.o FB.o _).mono ?_;rintro e w' ⟨rfl,rfl⟩
   go_wp2_with fail
   refine (ja _ HA.o _).mono ?_;rw[<-X.o];rintro e w' ⟨rfl,rfl⟩
   go_wp2_with fail
   refine (ja _ HB.o _).mono ?_;rw[<-Y.o];rintro e w' ⟨rfl,rfl⟩
   go_wp2_with fail
   refine (dF _ _ _ _ L.o).mono ?_;rw[E.o];rintro e w' ⟨rfl,rfl⟩
   go_wp2_with fail
   go_ret2;rw[ER.o];refine⟨bP ?_ ?_,rfl⟩ <;> first|rfl|(show (kF (a.natAbs+b.natAbs) (decide (a<0))).1=_;rw[show decide (a<0)=false from Zf (by omega)];done)|(show (kF (a.natAbs+b.natAbs) (decide (a<0))).2=_;rw[show decide (a<0)=false from Zf (by omega)];done)
 rcases four with ⟨hna,hnb⟩|⟨hna,hnb⟩
 all_goals
  have ER:=zq (HR.o.trans (En FA.o FB.o (by simp[hna,hnb])));have SUM:=zq (show wrap64 (a+b)=a+b from by have:=B1.o;have:=B2.o;unfold wrap64;omega);have hq:(decide (a<0)==decide (b<0))=false:=by simp[hna,hnb]
  clear hadd
  go_enter Tryz.func111,Tryz.ntmps111
  go_wp2_with fail
  refine (dK HA.o FA.o _).mono ?_;rintro e w' ⟨rfl,rfl⟩
  go_wp2_with fail
  refine (dK HB.o FB.o _).mono ?_;rintro e w' ⟨rfl,rfl⟩
  go_wp2_with fail
  go_ret2;rw[ER.o];exact⟨bP (by first|rfl|exact SUM.o) rfl,rfl⟩
theorem I64.Ny {b:Int} (h:aO b=true):I64 (-b):=by have:=aF.1 h;exact⟨by omega,by omega⟩
theorem nP (a b:Int) (ha:I64 a) (hb:I64 b) (w:World) :
 Calls Tryz.prog 71 #[.int .i64 a,.int .i64 b] w fun e w'=>e=.returned (.tuple #[.int .i64 (fK a b).1,.int .i64 (fK a b).2])/\w=w':=by
 have HA:=zq ha;have HB:=zq hb;clear ha hb;obtain⟨R,hR⟩:=Zn (fK a b);rw[<-hR]
 cases hfb:aO b with
 | false =>
   have ER:=zq (hR.trans (show _=((0,4):Int×Int) from by unfold fK;rw[hfb,if_neg (by simp)]));have FB:=zq hfb;clear hR hfb
   go_enter Tryz.func71,Tryz.ntmps71
   go_wp2_with (go_at_call 64;refine (dK HB.o FB.o _).mono ?_;rintro e w' ⟨rfl,rfl⟩)
   go_ret2;rw[ER.o];exact⟨rfl,rfl⟩
 | true =>
   have hb':=aF.1 hfb;have ER:=zq (hR.trans (show _=dQ a (-b) from by
    have hn:aO (-b)=true:=aF.2 (by omega);unfold fK dQ;rw[hfb,hn,Int.sub_eq_add_neg]))
   have FB:=zq hfb;have HN:=zq (I64.Ny hfb);have hneg:IntKind.i64.wrap (-b)=-b:=IntWalk.i64_in _ (by omega);have hb1:-4611686018427387904<=b:=hb'.1;have hb2:b<=4611686018427387904:=hb'.2;clear hR hfb hb'
   go_enter Tryz.func71,Tryz.ntmps71
   go_wp2_with fail
   refine (dK HB.o FB.o _).mono ?_;rintro e w' ⟨rfl,rfl⟩
   go_wp2_with fail
   refine (lZ a (-b) HA.o HN.o _).mono ?_;rw[<-ER.o];rintro e w' ⟨rfl,rfl⟩
   go_wp2_with fail
   go_ret2;exact⟨rfl,rfl⟩
theorem qV {a b:Int} (h:aO a=false\/aO b=false):fG a b=(0,4):=by
 unfold fG;rw[if_neg];rintro⟨h1,h2⟩;rcases h with h|h <;> simp_all
theorem Bz (a b:Int) (ha:I64 a) (hb:I64 b) (w:World) :
 Calls Tryz.prog 121 #[.int .i64 a,.int .i64 b] w fun e w'=>e=.returned (.tuple #[.int .i64 (fG a b).1,.int .i64 (fG a b).2])/\w=w':=by
 have HA:=zq ha;have HB:=zq hb;clear ha hb;obtain⟨R,hR⟩:=Zn (fG a b);rw[<-hR]
 cases hfa:aO a with
 | false =>
   have ER:=zq (hR.trans (qV (Or.inl hfa)));have FA:=zq hfa;clear hR hfa
   go_enter Tryz.func121,Tryz.ntmps121
   go_wp2_with (go_at_call 64;refine (dK HA.o FA.o _).mono ?_;rintro e w' ⟨rfl,rfl⟩)
   go_ret2;rw[ER.o];exact⟨rfl,rfl⟩
 | true =>
 cases hfb:aO b with
 | false =>
   have ER:=zq (hR.trans (qV (Or.inr hfb)));have FA:=zq hfa;have FB:=zq hfb;clear hR hfa hfb
   go_enter Tryz.func121,Tryz.ntmps121
   go_wp2_with fail
   refine (dK HA.o FA.o _).mono ?_;rintro e w' ⟨rfl,rfl⟩
   go_wp2_with fail
   refine (dK HB.o FB.o _).mono ?_;rintro e w' ⟨rfl,rfl⟩
   go_wp2_with fail
   go_ret2;rw[ER.o];exact⟨rfl,rfl⟩
 | true =>
 have b1:=aF.1 hfa;have b2:=aF.1 hfb;obtain⟨sg,hsg⟩:=Zn ((decide (a<0) != decide (b<0)));have ER:=zq (hR.trans (show _=kF (a.natAbs*b.natAbs) sg from by unfold fG;rw[if_pos ⟨hfa,hfb⟩,hsg]));have FA:=zq hfa;have FB:=zq hfb;clear hR hfa hfb;obtain⟨x,hx⟩:=Zn a.natAbs;obtain⟨y,hy⟩:=Zn b.natAbs;have MUL:=zq (fun w=>Tryz.lib_mul64 x y (by omega) (by omega) w);obtain⟨lo,hlo⟩:=Zn (x*y % 18446744073709551616);obtain⟨hi,hhi⟩:=Zn (x*y / 18446744073709551616);rw[<-hlo,<-hhi] at MUL;have E:=zq (show hi*18446744073709551616+lo=a.natAbs*b.natAbs from by
  rw[<-hx,<-hy,hhi,hlo,Nat.mul_comm (x*y / _)];exact Nat.div_add_mod _ _)
 have L:=zq (show lo<18446744073709551616 from by rw[hlo];exact Nat.mod_lt _ (by decide));have X:=zq hx;have Y:=zq hy;have SG:=zq hsg;clear hx hy hlo hhi b1 b2 hsg
 go_enter Tryz.func121,Tryz.ntmps121
 go_wp2_with fail
 refine (dK HA.o FA.o _).mono ?_;rintro e w' ⟨rfl,rfl⟩
 go_wp2_with fail
 refine (dK HB.o FB.o _).mono ?_;rintro e w' ⟨rfl,rfl⟩
 go_wp2_with fail
 refine (ja _ HA.o _).mono ?_;rw[<-X.o];rintro e w' ⟨rfl,rfl⟩
 go_wp2_with fail
 refine (ja _ HB.o _).mono ?_;rw[<-Y.o];rintro e w' ⟨rfl,rfl⟩
 go_wp2_with fail
 refine (MUL.o _).mono ?_;rintro e w' ⟨rfl,hw⟩;subst hw
 go_wp2_with fail
 first|rw[show (!(decide (a<0)==decide (b<0)))=sg from SG.o.symm]|rw[show ((!decide (a<0))==decide (b<0))=sg from by rw[SG.o];cases decide (a<0) <;> cases decide (b<0) <;> rfl]
 refine (dF _ _ _ _ L.o).mono ?_;rw[E.o,<-ER.o];rintro e w' ⟨rfl,rfl⟩
 go_wp2_with fail
 go_ret2;exact⟨rfl,rfl⟩
theorem Bl (lo y:Nat) (hy:0<y) (hl:lo<18446744073709551616) (hyl:y<18446744073709551616) (w:World) :
 Calls Tryz.prog 67 #[.int .u64 0,.int .u64 lo,.int .u64 y] w fun e w'=>e=.returned (.tuple #[.int .u64 ((lo / y:Nat):Int),.int .u64 ((lo % y:Nat):Int)])/\∃ n,w'=w.drewN n:=by
 have h1:((y:Int)==0)=false:=by simp;omega
 have h2:¬ (y:Int)<=0:=by omega
 have h3:(1:Int)<=(y:Int):=by omega
 have hq:IntKind.u64.wrap ((lo:Int) / (y:Int))=((lo / y:Nat):Int):=by
  obtain⟨q,hq⟩:=Zn (lo / y);have:=Nat.div_le_self lo y;have e:((lo:Int) / (y:Int))=((lo / y:Nat):Int):=by simp
  rw[e];rw[<-hq] at this ⊢;exact IntWalk.u64_in _ (by omega)
 have HQ:=zq hq;clear hq
 go_enter Tryz.func67,Tryz.ntmps67
 go_wp2_with fail
 go_quiet (fail)
 go_wp2_with fail
 go_ret2;exact⟨bP HQ.o (by simp),nq,rfl⟩
theorem Bj (hi lo y:Nat) (hy:hi<y) (h0:0<hi) (hl:lo<18446744073709551616) (hyl:y<18446744073709551616) (w:World) :
 Calls Tryz.prog 67 #[.int .u64 hi,.int .u64 lo,.int .u64 y] w fun e w'=>e=.returned (.tuple #[.int .u64 (((hi*18446744073709551616+lo) / y:Nat):Int),.int .u64 (((hi*18446744073709551616+lo) % y:Nat):Int)])/\∃ n,w'=w.drewN n:=by
 obtain⟨s,Y,y1,y0,H,l1,u,d,d1,d0,D⟩:=Jm hi lo y hy hl hyl;have h1:((y:Int)==0)=false:=by simp;omega
 have h2:¬ (y:Int)<=(hi:Int):=by omega
 have h3:((hi:Int)==0)=false:=by simp;omega
 have hs1:(s:Int)<=63:=by have:=D.s1;omega
 have LZ:=zq (show Calls Tryz.prog 110 #[.int .u64 y] w fun e w'=>e=.returned (.int .i64 (s:Nat))/\w'=w from by
  have:=Tryz.lib_lz64 (y:Int) w (by omega) (by omega);rw[show ((y:Int)).toNat=y from rfl,D.es] at this;exact this)
 have hms:min s 64=s:=by have:=D.s1;omega
 have e1:((y:Int)*2 ^ s)=((Y:Nat):Int):=by rw[D.eY];simp
 have e2:((hi:Int)*2 ^ s)=((H:Nat):Int):=by rw[D.eH];simp
 have e3:((lo:Int)*2 ^ s)=((lo*2 ^ s:Nat):Int):=by simp
 have hY:IntKind.u64.wrap ((y:Int)*2 ^ s)=(Y:Nat):=by rw[e1];exact IntWalk.u64_in _ (by have:=D.KW;omega)
 have hy1:(Y:Int) / 4294967296=(y1:Nat):=by have:=D.ey;have:=D.pU;omega
 have hy0:bits .and .u64 (Y:Int) 4294967295=(y0:Nat):=by rw[Mul64.maskN Y D.KW,show Y % 4294967296=y0 from by have:=D.ey;have:=D.pU;omega]
 have hH:IntKind.u64.wrap ((hi:Int)*2 ^ s)=(H:Nat):=by rw[e2];exact IntWalk.u64_in _ (by have:=D.Rx;omega)
 have hl1:(lo:Int) / 2 ^ (64 - s)=(l1:Nat):=by rw[D.el1];simp
 have hu:bits .or .u64 (H:Int) (l1:Int)=(u:Nat):=by rw[bits_or_u64_nat _ _ D.Rx D.Qp,D.RI]
 have hd:IntKind.u64.wrap ((lo:Int)*2 ^ s)=(d:Nat):=by rw[e3,wrap_u64,D.ed];omega
 have hd1:(d:Int) / 4294967296=(d1:Nat):=by have:=D.Rz;have:=D.Jj;omega
 have hd0:bits .and .u64 (d:Int) 4294967295=(d0:Nat):=by
  have:=D.Rz;have:=D.Jj;have:=D.Lj;rw[Mul64.maskN d (by omega),show d % 4294967296=d0 from by omega]
 obtain⟨q0,hq0⟩:=Zn (u / y1);obtain⟨m0,hm0⟩:=Zn (q0*y1);obtain⟨r0,hr0⟩:=Zn (u % y1);have hdm:m0+r0=u:=by rw[hm0,hq0,hr0,Nat.mul_comm];exact Nat.div_add_mod _ _
 have hule:u<18446744073709551616:=by have:=D.QG;have:=D.KW;omega
 have hq:IntKind.u64.wrap ((u:Int) / (y1:Int))=(q0:Nat):=by
  have:=Nat.div_le_self u y1;rw[show (u:Int) / (y1:Int)=((u / y1:Nat):Int) from rfl,<-hq0];exact IntWalk.u64_in _ (by omega)
 have hm:IntKind.u64.wrap ((q0:Int)*(y1:Int))=(m0:Nat):=by
  rw[<-Int.natCast_mul,<-hm0];exact IntWalk.u64_in _ (by omega)
 have hr:IntKind.u64.wrap ((u:Int) - (m0:Int))=(r0:Nat):=by
  rw[show (u:Int) - (m0:Int)=(r0:Nat) from by omega];exact IntWalk.u64_in _ (by omega)
 have hyp:(2147483648:Int)<=(y1:Int):=by have:=D.Ia;omega
 have DD:=zq D;have Q0:=zq (show q0*y1+r0=u/\q0<=4294967297/\r0<4294967296 from ⟨by rw[<-hm0];exact hdm,by rw[hq0];have:=D.QG;have:=D.ey;exact yV (by have:=D.Ia;omega) D.pU (by omega),by have:=D.Ia;have:=D.Pz;have:=Nat.mod_lt u (show 0<y1 by omega);omega⟩);have Q1:=zq (show Ot u d1 Y y1 y0 q0 r0 from ⟨by rw[<-hm0];exact hdm,by rw[hq0,D.ey];exact ve (by decide) (by have:=D.Ia;omega) D.Lj⟩);clear D e1 e2 e3 hq0 hm0 hr0 hdm hule hy hl hyl
 go_enter Tryz.func67,Tryz.ntmps67
 go_wp2_with fail
 refine LZ.o.mono ?_;rintro e w' ⟨rfl,hw⟩;subst hw;obtain⟨T1,hT1⟩:=Zn ((u*4294967296+d1) / Y);have TT1:=zq hT1;clear hT1
 go_upto_block 0 with (fail)
 go_cut [15,16] from 67 to 85 (fun v15 v16 wx=>v15=.int .u64 (T1:Nat)/\wx=w')
 case first =>
  clear hu hd hd1 hd0 hY hy1 hy0 hH hl1
  go_wp2_with fail
  go_loop [15,16] (fun v15 v16=>∃ q r:Nat,v15=.int .u64 q/\v16=.int .u64 r/\r<4294967296/\q<=4294967297/\Hid (Ot u d1 Y y1 y0 q r)) (fun v15 _=>(intOf v15).toNat)
  case atStart=>exact⟨q0,r0,rfl,rfl,Q0.o.2.2,Q0.o.2.1,Q1⟩
  obtain⟨q,r,rfl,rfl,hrl,hql,QR⟩:=hrel;clear hq hm hr;have DN:=zq (fun hc=>QR.o.next DD.o.ey DD.o.pU DD.o.QG DD.o.Lj hc);have b0:=DD.o.pU;have b1:=DD.o.Pz;have b2:=DD.o.Lj;by_cases hbig:4294967296<=q
  ·obtain⟨h1q,hn⟩:=DN.o (Or.inl hbig);have DN2:=zq hn;have hbig':(4294967296:Int)<=(q:Int):=by omega
   have hq1:(q:Int)<=4294967297:=by omega
   have hr1:(r:Int)<4294967296:=by omega
   have hy1':(y1:Int)<4294967296:=by omega
   have E:=zq (fun (h:4294967296<=r+y1)=>DN2.o.done DD.o.ey DD.o.pU DD.o.QG (mV DD.o.pU h (show q - 1<=4294967296 by omega)));clear hn;by_cases hbr:4294967296<=r+y1
   ·have hbr':(4294967296:Int)<=(r:Int)+(y1:Int):=by omega
    go_wp2_with fail
    go_meet
    case rel=>exact⟨by rw[TT1.o,<-E.o hbr];go_num,rfl⟩
   have hbr':¬ (4294967296:Int)<=(r:Int)+(y1:Int):=by omega
   go_wp2_with fail
   go_round
   case rel=>exact⟨q - 1,r+y1,by go_num,by go_num,by omega,by omega,DN2⟩
   case measure=>simp[intOf];omega
  obtain⟨m,hm⟩:=Zn (q*y0);have hml:m<18446744073709551616:=by
   have:m<=4294967295*4294967295:=by rw[hm];exact Nat.mul_le_mul (by omega) (by omega)
   omega
  have hM:IntKind.u64.wrap ((q:Int)*(y0:Int))=(m:Nat):=by
   rw[<-Int.natCast_mul,<-hm];exact IntWalk.u64_in _ (by omega)
  have hbig':¬ (4294967296:Int)<=(q:Int):=by omega
  have hr1:(r:Int)<4294967296:=by omega
  have hy1':(y1:Int)<4294967296:=by omega
  have hd1':(d1:Int)<4294967296:=by omega
  have hw:IntKind.u64.wrap (4294967296*(r:Int))=4294967296*(r:Int):=IntWalk.u64_in _ (by omega);have hw2:IntKind.u64.wrap (4294967296*(r:Int)+(d1:Int))=4294967296*(r:Int)+(d1:Int):=IntWalk.u64_in _ (by omega);by_cases hc:4294967296*r+d1<m
  ·obtain⟨h1q,hn⟩:=DN.o (Or.inr (by rw[<-hm];exact hc));have DN2:=zq hn;have E:=zq (fun (h:4294967296<=r+y1)=>DN2.o.done DD.o.ey DD.o.pU DD.o.QG (mV DD.o.pU h (show q - 1<=4294967296 by omega)));have hc':4294967296*(r:Int)+(d1:Int)<(m:Int):=by omega
   have hq0:(1:Int)<=(q:Int):=by omega
   have M:=zq hm;clear hn hm;by_cases hbr:4294967296<=r+y1
   ·have hbr':(4294967296:Int)<=(r:Int)+(y1:Int):=by omega
    go_wp2_with fail
    go_meet
    case rel=>exact⟨by rw[TT1.o,<-E.o hbr];go_num,rfl⟩
   have hbr':¬ (4294967296:Int)<=(r:Int)+(y1:Int):=by omega
   go_wp2_with fail
   go_round
   case rel=>exact⟨q - 1,r+y1,by go_num,by go_num,by omega,by omega,DN2⟩
   case measure=>simp[intOf];omega
  have E:=zq (QR.o.done DD.o.ey DD.o.pU DD.o.QG (show q*y0<=_ by rw[<-hm];omega));have hc':¬ 4294967296*(r:Int)+(d1:Int)<(m:Int):=by omega
  have M:=zq hm;clear hm
  go_wp2_with fail
  go_meet
  case rel=>exact⟨by rw[TT1.o,<-E.o],rfl⟩
 case rest =>
  obtain⟨rfl,rfl⟩:=hcut;clear hq hm hr hY hy1 hy0 hH hl1 hu hd hd1 hd0;have T1hi:=DD.o.QG;rw[DD.o.ey] at T1hi;have T1lt:T1<4294967296:=by rw[TT1.o,DD.o.ey];exact Bh T1hi DD.o.Lj
  clear T1hi;obtain⟨v,hv⟩:=Zn ((u*4294967296+d1) % Y);have Yp:0<Y:=by have:=DD.o.Rn;omega
  have vhi:v<Y:=by rw[hv];exact Nat.mod_lt _ Yp
  have vsum:T1*Y+v=u*4294967296+d1:=by rw[hv,TT1.o,Nat.mul_comm];exact Nat.div_add_mod _ _
  obtain⟨a1,ha1⟩:=Zn (u*4294967296 % 18446744073709551616);obtain⟨a2,ha2⟩:=Zn ((a1+d1) % 18446744073709551616);obtain⟨TY,hTY⟩:=Zn (T1*Y);obtain⟨a3,ha3⟩:=Zn (TY % 18446744073709551616);rw[<-hTY] at vsum;have KW:=DD.o.KW;have w1:IntKind.u64.wrap ((u:Int)*4294967296)=(a1:Nat):=by rw[wrap_u64];omega
  have w2:IntKind.u64.wrap ((a1:Int)+(d1:Int))=(a2:Nat):=by rw[wrap_u64];omega
  have w3:IntKind.u64.wrap ((T1:Int)*(Y:Int))=(a3:Nat):=by rw[<-Int.natCast_mul,<-hTY,wrap_u64];omega
  have w4:IntKind.u64.wrap ((a2:Int) - (a3:Int))=(v:Nat):=by rw[wrap_u64];omega
  have VHI:=zq vhi;have VV:=zq hv;obtain⟨q0,hq0⟩:=Zn (v / y1);obtain⟨m0,hm0⟩:=Zn (q0*y1);obtain⟨r0,hr0⟩:=Zn (v % y1);have hdm:m0+r0=v:=by rw[hm0,hq0,hr0,Nat.mul_comm];exact Nat.div_add_mod _ _
  have hq:IntKind.u64.wrap ((v:Int) / (y1:Int))=(q0:Nat):=by
   have:=Nat.div_le_self v y1;rw[show (v:Int) / (y1:Int)=((v / y1:Nat):Int) from rfl,<-hq0];exact IntWalk.u64_in _ (by omega)
  have hm:IntKind.u64.wrap ((q0:Int)*(y1:Int))=(m0:Nat):=by
   rw[<-Int.natCast_mul,<-hm0];exact IntWalk.u64_in _ (by omega)
  have hr:IntKind.u64.wrap ((v:Int) - (m0:Int))=(r0:Nat):=by
   rw[show (v:Int) - (m0:Int)=(r0:Nat) from by omega];exact IntWalk.u64_in _ (by omega)
  have P0:=zq (show q0*y1+r0=v/\q0<=4294967297/\r0<4294967296 from ⟨by rw[<-hm0];exact hdm,by rw[hq0];have:=DD.o.ey;exact yV (by have:=DD.o.Ia;omega) DD.o.pU (by omega),by have:=DD.o.Ia;have:=DD.o.Pz;have:=Nat.mod_lt v (show 0<y1 by omega);omega⟩);have P1:=zq (show Ot v d0 Y y1 y0 q0 r0 from ⟨by rw[<-hm0];exact hdm,by rw[hq0,DD.o.ey];exact ve (by decide) (by have:=DD.o.Ia;omega) DD.o.Jj⟩);obtain⟨T2,hT2⟩:=Zn ((v*4294967296+d0) / Y);have TT2:=zq hT2;have HT1:=zq T1lt;clear hq0 hm0 hr0 hdm ha1 ha2 ha3 hTY vsum hv vhi hT2 T1lt Yp KW
  go_upto_block 2 with (fail)
  go_cut [16,18] from 102 to 120 (fun v16 v18 wx=>v18=.int .u64 (T2:Nat)/\wx=wc)
  case first =>
   clear w1 w2 w3 w4
   go_wp2_with fail
   go_loop [16,18] (fun v16 v18=>∃ q r:Nat,v18=.int .u64 q/\v16=.int .u64 r/\r<4294967296/\q<=4294967297/\Hid (Ot v d0 Y y1 y0 q r)) (fun _ v18=>(intOf v18).toNat)
   case atStart=>exact⟨q0,r0,rfl,rfl,P0.o.2.2,P0.o.2.1,P1⟩
   obtain⟨q,r,rfl,rfl,hrl,hql,QR⟩:=hrel;clear hq hm hr;have DN:=zq (fun hc=>QR.o.next DD.o.ey DD.o.pU VHI.o DD.o.Jj hc);have b0:=DD.o.pU;have b1:=DD.o.Pz;have b2:=DD.o.Jj;by_cases hbig:4294967296<=q
   ·obtain⟨h1q,hn⟩:=DN.o (Or.inl hbig);have DN2:=zq hn;have hbig':(4294967296:Int)<=(q:Int):=by omega
    have hq1:(q:Int)<=4294967297:=by omega
    have hr1:(r:Int)<4294967296:=by omega
    have hy1':(y1:Int)<4294967296:=by omega
    have E:=zq (fun (h:4294967296<=r+y1)=>DN2.o.done DD.o.ey DD.o.pU VHI.o (mV DD.o.pU h (show q - 1<=4294967296 by omega)));clear hn;by_cases hbr:4294967296<=r+y1
    ·have hbr':(4294967296:Int)<=(r:Int)+(y1:Int):=by omega
     go_wp2_with fail
     go_meet
     case rel=>exact⟨by rw[TT2.o,<-E.o hbr];go_num,rfl⟩
    have hbr':¬ (4294967296:Int)<=(r:Int)+(y1:Int):=by omega
    go_wp2_with fail
    go_round
    case rel=>exact⟨q - 1,r+y1,by go_num,by go_num,by omega,by omega,DN2⟩
    case measure=>simp[intOf];omega
   obtain⟨m,hm⟩:=Zn (q*y0);have hml:m<18446744073709551616:=by
    have:m<=4294967295*4294967295:=by rw[hm];exact Nat.mul_le_mul (by omega) (by omega)
    omega
   have hM:IntKind.u64.wrap ((q:Int)*(y0:Int))=(m:Nat):=by
    rw[<-Int.natCast_mul,<-hm];exact IntWalk.u64_in _ (by omega)
   have hbig':¬ (4294967296:Int)<=(q:Int):=by omega
   have hr1:(r:Int)<4294967296:=by omega
   have hy1':(y1:Int)<4294967296:=by omega
   have hd0':(d0:Int)<4294967296:=by omega
   have hw:IntKind.u64.wrap (4294967296*(r:Int))=4294967296*(r:Int):=IntWalk.u64_in _ (by omega);have hw2:IntKind.u64.wrap (4294967296*(r:Int)+(d0:Int))=4294967296*(r:Int)+(d0:Int):=IntWalk.u64_in _ (by omega);by_cases hc:4294967296*r+d0<m
   ·obtain⟨h1q,hn⟩:=DN.o (Or.inr (by rw[<-hm];exact hc));have DN2:=zq hn;have E:=zq (fun (h:4294967296<=r+y1)=>DN2.o.done DD.o.ey DD.o.pU VHI.o (mV DD.o.pU h (show q - 1<=4294967296 by omega)));have hc':4294967296*(r:Int)+(d0:Int)<(m:Int):=by omega
    have hq0:(1:Int)<=(q:Int):=by omega
    have M:=zq hm;clear hn hm;by_cases hbr:4294967296<=r+y1
    ·have hbr':(4294967296:Int)<=(r:Int)+(y1:Int):=by omega
     go_wp2_with fail
     go_meet
     case rel=>exact⟨by rw[TT2.o,<-E.o hbr];go_num,rfl⟩
    have hbr':¬ (4294967296:Int)<=(r:Int)+(y1:Int):=by omega
    go_wp2_with fail
    go_round
    case rel=>exact⟨q - 1,r+y1,by go_num,by go_num,by omega,by omega,DN2⟩
    case measure=>simp[intOf];omega
   have E:=zq (QR.o.done DD.o.ey DD.o.pU VHI.o (show q*y0<=_ by rw[<-hm];omega));have hc':¬ 4294967296*(r:Int)+(d0:Int)<(m:Int):=by omega
   have M:=zq hm;clear hm
   go_wp2_with fail
   go_meet
   case rel=>exact⟨by rw[TT2.o,<-E.o],rfl⟩
  case rest =>
   obtain⟨rfl,rfl⟩:=hcut;clear hq hm hr w1 w2 w3 w4;have T2lt:T2<4294967296:=by
    have h:=VHI.o;rw[DD.o.ey] at h;rw[TT2.o,DD.o.ey];exact Bh h DD.o.Jj
   obtain⟨R,hR⟩:∃ v',v'=(v*4294967296+d0) % Y:=⟨_,rfl⟩;have Yp:0<Y:=by have:=DD.o.Rn;omega
   have Rhi:R<Y:=by rw[hR];exact Nat.mod_lt _ Yp
   have Rsum:T2*Y+R=v*4294967296+d0:=by rw[hR,TT2.o,Nat.mul_comm];exact Nat.div_add_mod _ _
   obtain⟨a1,ha1⟩:=Zn (v*4294967296 % 18446744073709551616);obtain⟨a2,ha2⟩:=Zn ((a1+d0) % 18446744073709551616);obtain⟨TY,hTY⟩:=Zn (T2*Y);obtain⟨a3,ha3⟩:=Zn (TY % 18446744073709551616);rw[<-hTY] at Rsum;have KW:=DD.o.KW;have w1:IntKind.u64.wrap ((v:Int)*4294967296)=(a1:Nat):=by rw[wrap_u64];omega
   have w2:IntKind.u64.wrap ((a1:Int)+(d0:Int))=(a2:Nat):=by rw[wrap_u64];omega
   have w3:IntKind.u64.wrap ((T2:Int)*(Y:Int))=(a3:Nat):=by rw[<-Int.natCast_mul,<-hTY,wrap_u64];omega
   have w4:IntKind.u64.wrap ((a2:Int) - (a3:Int))=(R:Nat):=by rw[wrap_u64];omega
   have w5:IntKind.u64.wrap ((T1:Int)*4294967296)=(T1:Int)*4294967296:=IntWalk.u64_in _ (by have:=HT1.o;omega);obtain⟨QF,hQF⟩:=Zn (T1*4294967296+T2);have w6:IntKind.u64.wrap ((T1:Int)*4294967296+(T2:Int))=(QF:Nat):=by rw[wrap_u64];have:=HT1.o;omega
   obtain⟨RF,hRF⟩:=Zn (R / 2 ^ s);have w7:(R:Int) / 2 ^ s=(RF:Nat):=by rw[hRF];simp
   have RR:=zq hR;clear ha1 ha2 ha3 hTY Rsum hR Rhi T2lt Yp KW;have QQ:=zq (show (hi*18446744073709551616+lo) / y=QF from by rw[DD.o.quo,<-TT1.o,<-VV.o,<-TT2.o,hQF]);have MM:=zq (show (hi*18446744073709551616+lo) % y=RF from by rw[DD.o.rem,<-VV.o,<-RR.o,hRF]);clear hQF hRF
   go_wp2_with fail
   go_ret2;refine⟨?_,0,rfl⟩;rw[QQ.o,MM.o];rfl
theorem Jk (hi lo y:Nat) (hy:hi<y) (hl:lo<18446744073709551616) (hyl:y<18446744073709551616) (w:World) :
 Calls Tryz.prog 67 #[.int .u64 hi,.int .u64 lo,.int .u64 y] w fun e w'=>e=.returned (.tuple #[.int .u64 (((hi*18446744073709551616+lo) / y:Nat):Int),.int .u64 (((hi*18446744073709551616+lo) % y:Nat):Int)])/\∃ n,w'=w.drewN n:=by
 rcases Nat.eq_zero_or_pos hi with h|h
 ·subst h;rw[Nat.zero_mul,Nat.zero_add];exact Bl lo y hy hl hyl w
 exact Bj hi lo y hy h hl hyl w
def Aw (w:World) (r:Int×Int) (e:Ending) (w':World):Prop:=e=.returned (.tuple #[.int .i64 r.1,.int .i64 r.2])/\∃ n,w'=w.drewN n
theorem mD {w:World} {r:Int×Int} {x y:Int} (h:r=(x,y)):Aw w r (.returned (.tuple #[.int .i64 x,.int .i64 y])) w:=by subst h;exact⟨rfl,0,rfl⟩
theorem Lu (a b c mode:Int) (ha:I64 a) (hb:I64 b) (hc:I64 c) (w:World) (hbad:aO a=false\/aO b=false\/aO c=false) :
 Calls Tryz.prog 23 #[.int .i64 a,.int .i64 b,.int .i64 c,.int .i64 mode] w (Aw w (iT a b c mode)):=by
 have HA:=zq ha;have HB:=zq hb;have HC:=zq hc;clear ha hb hc;have ER:=zq (show iT a b c mode=(0,4) from by
  unfold iT;rw[if_pos];rintro⟨h1,h2,h3⟩;rcases hbad with h|h|h <;> simp_all)
 cases hfa:aO a with
 | false =>
   have FA:=zq hfa;clear hfa hbad
   go_enter Tryz.func23,Tryz.ntmps23
   go_wp2_with (go_at_call 64;refine (dK HA.o FA.o _).mono ?_;rintro e w' ⟨rfl,rfl⟩)
   go_ret2;exact mD ER.o
 | true =>
 have FA:=zq hfa
 cases hfb:aO b with
 | false =>
   have FB:=zq hfb;clear hfa hfb hbad
   go_enter Tryz.func23,Tryz.ntmps23
   go_wp2_with fail
   refine (dK HA.o FA.o _).mono ?_;rintro e w' ⟨rfl,rfl⟩
   go_wp2_with fail
   refine (dK HB.o FB.o _).mono ?_;rintro e w' ⟨rfl,rfl⟩
   go_wp2_with fail
   go_ret2;exact mD ER.o
 | true =>
 have FB:=zq hfb;have FC:=zq (show aO c=false from by rcases hbad with h|h|h <;> simp_all);clear hfa hfb hbad
 go_enter Tryz.func23,Tryz.ntmps23
 go_wp2_with fail
 refine (dK HA.o FA.o _).mono ?_;rintro e w' ⟨rfl,rfl⟩
 go_wp2_with fail
 refine (dK HB.o FB.o _).mono ?_;rintro e w' ⟨rfl,rfl⟩
 go_wp2_with fail
 refine (dK HC.o FC.o _).mono ?_;rintro e w' ⟨rfl,rfl⟩
 go_wp2_with fail
 go_ret2;exact mD ER.o
theorem OI (a b c mode:Int) (ha:aO a=true) (hb:aO b=true) (hc:aO c=true) (w:World) (hbad:c=0\/mode<0\/3<mode) :
 Calls Tryz.prog 23 #[.int .i64 a,.int .i64 b,.int .i64 c,.int .i64 mode] w (Aw w (iT a b c mode)):=by
 have FA:=zq ha;have FB:=zq hb;have FC:=zq hc;have ER:=zq (show iT a b c mode=(0,1) from by
  unfold iT;rw[if_neg (by simp[ha,hb,hc]),if_pos hbad])
 clear ha hb hc;have three:(c==0)=true\/((c==0)=false/\mode<0)\/((c==0)=false/\¬ mode<0/\3<mode):=by
  by_cases h0:c=0
  ·left;simp[h0]
  right;simp[h0];omega
 clear hbad;rcases three with h|⟨h,h2⟩|⟨h,h2,h3⟩
 all_goals
  go_enter Tryz.func23,Tryz.ntmps23
  go_wp2_with fail
  refine (dK (I64.bU FA.o) FA.o _).mono ?_;rintro e w' ⟨rfl,rfl⟩
  go_wp2_with fail
  refine (dK (I64.bU FB.o) FB.o _).mono ?_;rintro e w' ⟨rfl,rfl⟩
  go_wp2_with fail
  refine (dK (I64.bU FC.o) FC.o _).mono ?_;rintro e w' ⟨rfl,rfl⟩
  go_wp2_with fail
  go_ret2;exact mD ER.o
theorem LD (a b c mode:Int) (ha:aO a=true) (hb:aO b=true) (hc:aO c=true) (w:World) (hc0:c≠0) (hm0:0<=mode) (hm3:mode<=3) :
 Calls Tryz.prog 23 #[.int .i64 a,.int .i64 b,.int .i64 c,.int .i64 mode] w (Aw w (iT a b c mode)):=by
 have FA:=zq ha;have FB:=zq hb;have FC:=zq hc;obtain⟨R,hR⟩:=Zn (iT a b c mode);rw[<-hR];have ba:=aF.1 ha;have bb:=aF.1 hb;have bc:=aF.1 hc;obtain⟨x,hx⟩:=Zn a.natAbs;obtain⟨y,hy⟩:=Zn b.natAbs;obtain⟨z,hz⟩:=Zn c.natAbs;obtain⟨ng,hng⟩:=Zn (CJ a b c);have ER:=zq (show R=kF (x*y / z+if x*y % z≠0/\Ac mode ng=true then 1 else 0) ng from by
  rw[hR];unfold iT;rw[if_neg (by simp[ha,hb,hc]),if_neg (by omega),<-hx,<-hy,<-hz,<-hng])
 have MUL:=zq (fun w=>Tryz.lib_mul64 x y (by omega) (by omega) w);obtain⟨lo,hlo⟩:=Zn (x*y % 18446744073709551616);obtain⟨hi,hhi⟩:=Zn (x*y / 18446744073709551616);rw[<-hlo,<-hhi] at MUL;have E:=zq (show hi*18446744073709551616+lo=x*y from by
  rw[hhi,hlo,Nat.mul_comm (x*y / _)];exact Nat.div_add_mod _ _)
 have L:=zq (show lo<18446744073709551616 from by rw[hlo];exact Nat.mod_lt _ (by decide));have Z:=zq (show 0<z/\z<=4611686018427387904 from by omega);have X:=zq hx;have Y:=zq hy;have ZZ:=zq hz;have NG:=zq hng;have hc1:(c==0)=false:=by simpa using hc0
 clear ha hb hc hR ba bb bc hx hy hz hng hlo hhi hc0
 go_enter Tryz.func23,Tryz.ntmps23
 go_wp2_with fail
 refine (dK (I64.bU FA.o) FA.o _).mono ?_;rintro e w' ⟨rfl,rfl⟩
 go_wp2_with fail
 refine (dK (I64.bU FB.o) FB.o _).mono ?_;rintro e w' ⟨rfl,rfl⟩
 go_wp2_with fail
 refine (dK (I64.bU FC.o) FC.o _).mono ?_;rintro e w' ⟨rfl,rfl⟩
 go_upto_region 6 with (fail)
 rw[show (!((!(decide (a<0)==decide (b<0)))==decide (c<0)))=ng from NG.o.symm]
 go_wp2_with fail
 refine (ja _ (I64.bU FA.o) _).mono ?_;rw[<-X.o];rintro e w' ⟨rfl,rfl⟩
 go_wp2_with fail
 refine (ja _ (I64.bU FB.o) _).mono ?_;rw[<-Y.o];rintro e w' ⟨rfl,rfl⟩
 go_wp2_with fail
 refine (MUL.o _).mono ?_;rintro e w' ⟨rfl,hw⟩;subst hw
 go_wp2_with fail
 refine (ja _ (I64.bU FC.o) _).mono ?_;rw[<-ZZ.o];rintro e w1 ⟨rfl,rfl⟩;by_cases hov:z<=hi
 ·have EO:=zq (ER.o.trans (show _=((0,4):Int×Int) from by
   refine nY ?_;have h1:18446744073709551616<=x*y / z:=by
    rw[Nat.le_div_iff_mul_le Z.o.1,<-E.o];have:=Nat.mul_le_mul_left 18446744073709551616 hov;rw[Nat.mul_comm hi];omega
   omega))
  have hov':(z:Int)<=(hi:Int):=by omega
  go_wp2_with fail
  go_ret2;exact mD EO.o
 have hov':¬ (z:Int)<=(hi:Int):=by omega
 obtain⟨q,hq⟩:=Zn (x*y / z);obtain⟨r,hr⟩:=Zn (x*y % z);have DIV:=zq (show ∀ w,_ from fun w=>Jk hi lo z (by omega) L.o (by have:=Z.o;omega) w);rw[E.o,<-hq,<-hr] at DIV;rw[<-hq,<-hr] at ER;have qhi:q<18446744073709551616:=by
  rw[hq,Nat.div_lt_iff_lt_mul Z.o.1,<-E.o];have h1:=L.o;have:=Nat.mul_le_mul_left 18446744073709551616 (show hi+1<=z by omega);rw[Nat.mul_add,Nat.mul_one] at this;rw[Nat.mul_comm hi];omega
 have QHI:=zq qhi;have HS:=zq (show ∀ W,(callFunc 68 #[.int .u64 (q:Nat),.int .u64 1,.int .u64 0]).run Tryz.prog W=.ok (.value (.tuple #[.int .u64 (((q+1+0) % 18446744073709551616:Nat):Int),.int .u64 (((q+1+0) / 18446744073709551616:Nat):Int)])) W from fun W=>Tryz.lib_add64 q 1 0 (by omega) _);clear hq hr hov qhi
 go_wp2_with fail
 refine (ja _ (I64.bU FC.o) _).mono ?_;rw[<-ZZ.o];rintro e w' ⟨rfl,rfl⟩
 go_wp2_with fail
 refine (DIV.o _).mono ?_;rintro e w' ⟨rfl,n,hw⟩;subst hw
 go_upto_region 10 with (fail)
 obtain⟨lo1,hlo1⟩:=Zn ((q+1+0) % 18446744073709551616);obtain⟨hi1,hhi1⟩:=Zn ((q+1+0) / 18446744073709551616);have E1:=zq (show hi1*18446744073709551616+lo1=q+1 from by omega);have L1:=zq (show lo1<18446744073709551616 from by omega);rw[<-hlo1,<-hhi1] at HS;have QR:=zq (And.intro hlo1 hhi1);clear hlo1 hhi1;have m4:mode=0\/mode=1\/mode=2\/mode=3:=by omega
 clear hm0 hm3;rcases m4 with rfl|rfl|rfl|rfl <;> cases ng <;> by_cases hr0:r=0
 ·have h0:¬ (0:Int)<(r:Int):=by omega
  have EO:=zq (show R=kF (0*18446744073709551616+q) false from by rw[ER.o,if_neg (fun h=>h.1 hr0),Nat.zero_mul,Nat.zero_add,Nat.add_zero]);clear hr0
  go_wp2_with fail
  refine (dF 0 _ _ _ QHI.o).mono ?_;rw[<-EO.o];rintro e w' ⟨rfl,rfl⟩
  go_wp2_with fail
  go_ret2;exact⟨bP rfl rfl,n,rfl⟩
 ·have h0:(0:Int)<(r:Int):=by omega
  have EO:=zq (show R=kF (0*18446744073709551616+q) false from by rw[ER.o,if_neg (fun h=>absurd h.2 (by decide)),Nat.zero_mul,Nat.zero_add,Nat.add_zero]);clear hr0
  go_wp2_with fail
  refine (dF 0 _ _ _ QHI.o).mono ?_;rw[<-EO.o];rintro e w' ⟨rfl,rfl⟩
  go_wp2_with fail
  go_ret2;exact⟨bP rfl rfl,n,rfl⟩
 ·have h0:¬ (0:Int)<(r:Int):=by omega
  have EO:=zq (show R=kF (0*18446744073709551616+q) true from by rw[ER.o,if_neg (fun h=>h.1 hr0),Nat.zero_mul,Nat.zero_add,Nat.add_zero]);clear hr0
  go_wp2_with fail
  refine (dF 0 _ _ _ QHI.o).mono ?_;rw[<-EO.o];rintro e w' ⟨rfl,rfl⟩
  go_wp2_with fail
  go_ret2;exact⟨bP rfl rfl,n,rfl⟩
 ·have h0:(0:Int)<(r:Int):=by omega
  have EO:=zq (show R=kF (q+1) true from by rw[ER.o,if_pos ⟨hr0,by decide⟩]);have hs:=HS.o;clear hr0
  go_wp2_with fail
  refine (dF _ _ _ _ L1.o).mono ?_;rw[E1.o,<-EO.o];rintro e w' ⟨rfl,rfl⟩
  go_wp2_with fail
  go_ret2;exact⟨bP rfl rfl,n,rfl⟩
 ·have h0:¬ (0:Int)<(r:Int):=by omega
  have EO:=zq (show R=kF (0*18446744073709551616+q) false from by rw[ER.o,if_neg (fun h=>h.1 hr0),Nat.zero_mul,Nat.zero_add,Nat.add_zero]);clear hr0
  go_wp2_with fail
  refine (dF 0 _ _ _ QHI.o).mono ?_;rw[<-EO.o];rintro e w' ⟨rfl,rfl⟩
  go_wp2_with fail
  go_ret2;exact⟨bP rfl rfl,n,rfl⟩
 ·have h0:(0:Int)<(r:Int):=by omega
  have EO:=zq (show R=kF (q+1) false from by rw[ER.o,if_pos ⟨hr0,by decide⟩]);have hs:=HS.o;clear hr0
  go_wp2_with fail
  refine (dF _ _ _ _ L1.o).mono ?_;rw[E1.o,<-EO.o];rintro e w' ⟨rfl,rfl⟩
  go_wp2_with fail
  go_ret2;exact⟨bP rfl rfl,n,rfl⟩
 ·have h0:¬ (0:Int)<(r:Int):=by omega
  have EO:=zq (show R=kF (0*18446744073709551616+q) true from by rw[ER.o,if_neg (fun h=>h.1 hr0),Nat.zero_mul,Nat.zero_add,Nat.add_zero]);clear hr0
  go_wp2_with fail
  refine (dF 0 _ _ _ QHI.o).mono ?_;rw[<-EO.o];rintro e w' ⟨rfl,rfl⟩
  go_wp2_with fail
  go_ret2;exact⟨bP rfl rfl,n,rfl⟩
 ·have h0:(0:Int)<(r:Int):=by omega
  have EO:=zq (show R=kF (0*18446744073709551616+q) true from by rw[ER.o,if_neg (fun h=>absurd h.2 (by decide)),Nat.zero_mul,Nat.zero_add,Nat.add_zero]);clear hr0
  go_wp2_with fail
  refine (dF 0 _ _ _ QHI.o).mono ?_;rw[<-EO.o];rintro e w' ⟨rfl,rfl⟩
  go_wp2_with fail
  go_ret2;exact⟨bP rfl rfl,n,rfl⟩
 ·have h0:¬ (0:Int)<(r:Int):=by omega
  have EO:=zq (show R=kF (0*18446744073709551616+q) false from by rw[ER.o,if_neg (fun h=>h.1 hr0),Nat.zero_mul,Nat.zero_add,Nat.add_zero]);clear hr0
  go_wp2_with fail
  refine (dF 0 _ _ _ QHI.o).mono ?_;rw[<-EO.o];rintro e w' ⟨rfl,rfl⟩
  go_wp2_with fail
  go_ret2;exact⟨bP rfl rfl,n,rfl⟩
 ·have h0:(0:Int)<(r:Int):=by omega
  have EO:=zq (show R=kF (0*18446744073709551616+q) false from by rw[ER.o,if_neg (fun h=>absurd h.2 (by decide)),Nat.zero_mul,Nat.zero_add,Nat.add_zero]);clear hr0
  go_wp2_with fail
  refine (dF 0 _ _ _ QHI.o).mono ?_;rw[<-EO.o];rintro e w' ⟨rfl,rfl⟩
  go_wp2_with fail
  go_ret2;exact⟨bP rfl rfl,n,rfl⟩
 ·have h0:¬ (0:Int)<(r:Int):=by omega
  have EO:=zq (show R=kF (0*18446744073709551616+q) true from by rw[ER.o,if_neg (fun h=>h.1 hr0),Nat.zero_mul,Nat.zero_add,Nat.add_zero]);clear hr0
  go_wp2_with fail
  refine (dF 0 _ _ _ QHI.o).mono ?_;rw[<-EO.o];rintro e w' ⟨rfl,rfl⟩
  go_wp2_with fail
  go_ret2;exact⟨bP rfl rfl,n,rfl⟩
 ·have h0:(0:Int)<(r:Int):=by omega
  have EO:=zq (show R=kF (0*18446744073709551616+q) true from by rw[ER.o,if_neg (fun h=>absurd h.2 (by decide)),Nat.zero_mul,Nat.zero_add,Nat.add_zero]);clear hr0
  go_wp2_with fail
  refine (dF 0 _ _ _ QHI.o).mono ?_;rw[<-EO.o];rintro e w' ⟨rfl,rfl⟩
  go_wp2_with fail
  go_ret2;exact⟨bP rfl rfl,n,rfl⟩
 ·have h0:¬ (0:Int)<(r:Int):=by omega
  have EO:=zq (show R=kF (0*18446744073709551616+q) false from by rw[ER.o,if_neg (fun h=>h.1 hr0),Nat.zero_mul,Nat.zero_add,Nat.add_zero]);clear hr0
  go_wp2_with fail
  refine (dF 0 _ _ _ QHI.o).mono ?_;rw[<-EO.o];rintro e w' ⟨rfl,rfl⟩
  go_wp2_with fail
  go_ret2;exact⟨bP rfl rfl,n,rfl⟩
 ·have h0:(0:Int)<(r:Int):=by omega
  have EO:=zq (show R=kF (q+1) false from by rw[ER.o,if_pos ⟨hr0,by decide⟩]);have hs:=HS.o;clear hr0
  go_wp2_with fail
  refine (dF _ _ _ _ L1.o).mono ?_;rw[E1.o,<-EO.o];rintro e w' ⟨rfl,rfl⟩
  go_wp2_with fail
  go_ret2;exact⟨bP rfl rfl,n,rfl⟩
 ·have h0:¬ (0:Int)<(r:Int):=by omega
  have EO:=zq (show R=kF (0*18446744073709551616+q) true from by rw[ER.o,if_neg (fun h=>h.1 hr0),Nat.zero_mul,Nat.zero_add,Nat.add_zero]);clear hr0
  go_wp2_with fail
  refine (dF 0 _ _ _ QHI.o).mono ?_;rw[<-EO.o];rintro e w' ⟨rfl,rfl⟩
  go_wp2_with fail
  go_ret2;exact⟨bP rfl rfl,n,rfl⟩
 have h0:(0:Int)<(r:Int):=by omega
 have EO:=zq (show R=kF (q+1) true from by rw[ER.o,if_pos ⟨hr0,by decide⟩]);have hs:=HS.o;clear hr0
 go_wp2_with fail
 refine (dF _ _ _ _ L1.o).mono ?_;rw[E1.o,<-EO.o];rintro e w' ⟨rfl,rfl⟩
 go_wp2_with fail
 go_ret2;exact⟨bP rfl rfl,n,rfl⟩
theorem lu (a b c mode:Int) (ha:I64 a) (hb:I64 b) (hc:I64 c) (w:World) :
 Calls Tryz.prog 23 #[.int .i64 a,.int .i64 b,.int .i64 c,.int .i64 mode] w (Aw w (iT a b c mode)):=by
 by_cases h:aO a=true/\aO b=true/\aO c=true
 ·by_cases h2:c=0\/mode<0\/3<mode
  ·exact OI a b c mode h.1 h.2.1 h.2.2 w h2
  exact LD a b c mode h.1 h.2.1 h.2.2 w (by omega) (by omega) (by omega)
 refine Lu a b c mode ha hb hc w ?_;cases h1:aO a <;> cases h2:aO b <;> cases h3:aO c <;> simp_all
def dR (xs:List Int):List Value:=xs.map (Value.int .i64)
def jZ:List Int->Int->Int×Int
 | [],a=>(a,0)
 | x::r,a=>if (fG a x).2≠0 then (0,(fG a x).2) else jZ r (fG a x).1
theorem jW (a b:Int):(fG a b).2=0/\aO (fG a b).1=true\/fG a b=(0,4):=by
 rw[lF]
 split
 ·rename_i h;exact Or.inl ⟨rfl,h.2.2⟩
 exact Or.inr rfl
theorem qZ (a b:Int):(fK a b).2=0/\aO (fK a b).1=true\/fK a b=(0,4):=by
 unfold fK
 split
 ·rename_i h;exact Or.inl ⟨rfl,h.2.2⟩
 exact Or.inr rfl
theorem qQ (a b:Int):(dQ a b).2=0/\aO (dQ a b).1=true\/dQ a b=(0,4):=by
 unfold dQ
 split
 ·rename_i h;exact Or.inl ⟨rfl,h.2.2⟩
 exact Or.inr rfl
theorem Gj {w:World} {n k:Nat} {v:Value} {cs:List Value} (h:Reads w n v k cs):∃ a c,v=.slice a k c:=by
 rcases h.2 with ⟨c,rfl,h0⟩|⟨a,c,rfl,_⟩
 ·exact⟨none,c,by rw[h0]⟩
 exact⟨some a,c,rfl⟩
theorem Gm {w:World} {n k m c:Nat} {cs:List Value} (h:Reads w n (.slice none m c) k cs):k=0:=by
 rcases h.2 with ⟨c',e,h0⟩|⟨a,c',e,_⟩
 ·exact h0
 cases e
theorem Gn {w:World} {n k m c:Nat} {a:Addr} {cs:List Value} (h:Reads w n (.slice (some a) m c) k cs):∀ j u,cs[j]?=some u->w.cell? (a.add j)=some u:=by
 rcases h.2 with ⟨c',e,h0⟩|⟨a',c',e,hc⟩
 ·cases e
 cases e;exact hc
theorem ints_at {w:World} {a:Option Addr} {n c:Nat} {xs:List Int} (h:Reads w 1 (.slice a n c) xs.length (dR xs)) (h0:0<xs.length) :
 ∃ b o,a=some ⟨b,o,none⟩/\∀ (k:Nat) (x:Int),xs[k]?=some x->w.cell? ⟨b,o+k,none⟩=some (.int .i64 x):=by
 cases a with
 | none=>have:=Gm h;omega
 | some a =>
   have hc:=Gn h;have h1:(dR xs)[0]?=some (.int .i64 xs[0]):=by simp[dR,List.getElem?_eq_getElem h0]
   have hp:=xU (hc 0 _ h1);obtain⟨b,o,sp⟩:=a
   simp only[Addr.mk.injEq,true_and] at hp
   subst hp;refine⟨b,o,rfl,fun k x hk=>?_⟩;have:=hc k (.int .i64 x) (by simp[dR,hk])
   rwa [add_plain] at this
theorem y9 (w:World) (v:Value) (xs:List Int) (hR:Reads w 1 v xs.length (dR xs)) (hx:∀ x∈xs,I64 x) (hl:xs.length<=1000) :
 Calls Tryz.prog 87 #[v] w fun e w'=>e=.returned (.tuple #[.int .i64 (jZ xs 1).1,.int .i64 (jZ xs 1).2])/\w=w':=by
 obtain⟨a,c,rfl⟩:=Gj hR;obtain⟨P,hP⟩:=Zn (jZ xs 1);rw[<-hP];have HR:=zq hR;have HX:=zq hx;have HP:=zq (show P=jZ (xs.drop 0) 1 from hP);clear hR hx hP
 go_enter Tryz.func87,Tryz.ntmps87
 go_wp2_with fail
 go_loop [4,11] (fun acc i=>∃ (k:Nat) (m:Int),k<=xs.length/\i=.int .i64 k/\acc=.int .i64 m/\Hid (P=jZ (xs.drop k) m/\I64 m)) (fun _ i=>xs.length - (intOf i).toNat)
 case atStart=>exact⟨0,1,Nat.zero_le _,rfl,rfl,zq ⟨HP.o,⟨by omega,by omega⟩⟩⟩
 obtain⟨k,m,hk,rfl,rfl,INV⟩:=hrel;by_cases hlt:k<xs.length
 ·obtain⟨b,o,rfl,hc⟩:=ints_at HR.o (by omega);obtain⟨x,hx⟩:∃ x,xs[k]?=some x:=⟨_,List.getElem?_eq_getElem hlt⟩;have c0:=hc k x hx;have hd:xs.drop k=x::xs.drop (k+1):=by rw[List.drop_eq_getElem_cons hlt,(List.getElem?_eq_some_iff.1 hx).2]
  have IX:=zq (HX.o x (List.mem_of_getElem? hx));have hlt':(k:Int)<(xs.length:Int):=by omega
  have EQ:=zq (INV.o.1.trans (by rw[hd,jZ]));clear hc hx hd
  go_wp2_with fail
  refine (Bz m x INV.o.2 IX.o _).mono ?_;rcases jW m x with ⟨he,hf⟩|he
  ·obtain⟨⟨y,er⟩,hy⟩:∃ r,r=fG m x:=⟨_,rfl⟩;rw[<-hy] at he hf ⊢
   simp only at he hf
   subst he;have EQ2:=zq (EQ.o.trans (show _=jZ (xs.drop (k+1)) y from by rw[<-hy];simp));have F:=zq (I64.bU hf);clear hy hf;rintro e w' ⟨rfl,rfl⟩
   go_wp2_with fail
   go_round
   case rel=>exact⟨k+1,y,by omega,by go_num,rfl,zq ⟨EQ2.o,F.o⟩⟩
   case measure=>simp[intOf];omega
  have EQ2:=zq (EQ.o.trans (show _=((0,4):Int×Int) from by rw[he];simp));rw[he];clear he;rintro e w' ⟨rfl,rfl⟩
  go_wp2_with fail
  go_ret2;rw[EQ2.o];exact⟨bP rfl rfl,rfl⟩
 have hlt':¬ (k:Int)<(xs.length:Int):=by omega
 have EQ:=zq (INV.o.1.trans (show _=(m,(0:Int)) from by rw[List.drop_of_length_le (by omega)];rfl))
 go_wp2_with fail
 go_ret2;rw[EQ.o];exact⟨bP rfl rfl,rfl⟩
end Go.Proofs.YtcepekniflaoaaaGreatDoor
