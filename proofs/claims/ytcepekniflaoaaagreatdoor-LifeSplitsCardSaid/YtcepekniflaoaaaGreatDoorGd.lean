/- Joined: Rf01, Rf01b. -/
import Derived.Test.YtcepekniflaoaaaGreatDoorGc
import Derived.Test.YtcepekniflaoaaaGreatDoorGa
import Derived.Laws.BitsAllLaws
import Derived.Laws.ShiftsVarLaws
set_option linter.unusedVariables false
set_option linter.unusedSimpArgs false
set_option maxRecDepth 100000
set_option maxHeartbeats 4000000
namespace Go.Proofs.YtcepekniflaoaaaGreatDoor
open Go.RowKit Go.Bw Go.Maps
theorem qH (x:Int) (h:aO x=true) (w:World):Calls Tryz.prog 118 #[.int .i64 x] w fun e w'=>e=.returned (.int .u64 (x.natAbs:Nat))/\w=w':=by
 have b:=aF.1 h;have b1:=b.1;have b2:=b.2;have H:=zq b;clear h b;by_cases hx:x<0
 ·go_enter Tryz.func118,Tryz.ntmps118
  go_wp2_with fail
  go_ret;exact⟨gQ (by have:=H.o;first|omega|(rw[wrap_u64];omega)),rfl⟩
 go_enter Tryz.func118,Tryz.ntmps118
 go_wp2_with fail
 go_ret;exact⟨gQ (by have:=H.o;first|omega|(rw[wrap_u64];omega)),rfl⟩
theorem FH (x b:Nat) (hb:b<=1):2*x ||| b=2*x+b:=by
 have:=Nat.two_pow_add_eq_or_of_lt (i:=1) (b:=b) (by omega) x;rw[Nat.pow_one] at this;exact this.symm
theorem GI (h l bit h' l':Nat) (w:World) (hh:h<9223372036854775808) (hl:l<18446744073709551616) (hb:bit<=1) (e:h'*18446744073709551616+l'=2*(h*18446744073709551616+l)+bit) (hl':l'<18446744073709551616) :
 Calls Tryz.prog 159 #[.agg #[.int .u64 (h:Nat),.int .u64 (l:Nat)],.int .u64 (bit:Nat)] w fun e w'=>e=.returned (.agg #[.int .u64 (h':Nat),.int .u64 (l':Nat)])/\Below w.heap.size w w':=by
 have O1:=zq (show bits .or .u64 ((h:Int)*2) ((l:Int) / 9223372036854775808)=(h':Nat) from by
  rw[show (h:Int)*2=((2*h:Nat):Int) from by omega,show (l:Int) / 9223372036854775808=((l / 9223372036854775808:Nat):Int) from by omega,bits_or_u64_nat _ _ (by omega) (by omega),FH h _ (by omega)];omega)
 have O2:=zq (show bits .or .u64 (IntKind.u64.wrap ((l:Int)*2)) (bit:Int)=(l':Nat) from by
  rw[wrap_u64,show (l:Int)*2 % 18446744073709551616=((2*(l % 9223372036854775808):Nat):Int) from by omega,bits_or_u64_nat _ _ (by omega) (by omega),FH _ _ hb];omega)
 clear e hl' hb hl
 go_enter Tryz.func159,Tryz.ntmps159
 go_wp2_with fail
 refine bodyPost_ret (v:=.agg #[.int .u64 (bits .or .u64 ((h:Int)*2) ((l:Int) / 9223372036854775808)),.int .u64 (bits .or .u64 (IntKind.u64.wrap ((l:Int)*2)) (bit:Int))]) (by simp[results,Tryz.results159,go_sem]) rfl ⟨?_,?_⟩
 ·rw[O1.o,O2.o]
 exact (Zb).alloc (by simp) _
def hiN (W:Nat):Nat:=W / 18446744073709551616
def mP (W:Nat):Nat:=W % 18446744073709551616
theorem zG (W bit:Nat) (w:World) (hW:W<170141183460469231731687303715884105728) (hb:bit<=1) (h l:Nat) (h1:h=hiN W) (h2:l=mP W) (h' l':Nat) (h3:h'=hiN (2*W+bit)) (h4:l'=mP (2*W+bit)) :
 Calls Tryz.prog 159 #[.agg #[.int .u64 (h:Nat),.int .u64 (l:Nat)],.int .u64 (bit:Nat)] w fun e w'=>e=.returned (.agg #[.int .u64 (h':Nat),.int .u64 (l':Nat)])/\Below w.heap.size w w':=by
 subst h1;subst h2;subst h3;subst h4;unfold hiN mP;exact GI _ _ bit _ _ w (by omega) (by omega) hb (by omega) (by omega)
theorem Me (W:Nat):hiN W*18446744073709551616+mP W=W:=by unfold hiN mP;omega
theorem Ir (W:Nat):mP W<18446744073709551616:=by unfold mP;omega
def gY (h l:Nat):Obj:=.cells #[.int .u64 (h:Nat),.int .u64 (l:Nat)] 141 (0,0)
structure sD (w:World) (a b:Nat) (k:Nat) (wr:World):Prop where
 res:wr.heap[w.heap.size]?=some (gY 0 0)
 cur:wr.heap[w.heap.size+1]?=some (gY (hiN (a*(b / 2 ^ k))) (mP (a*(b / 2 ^ k))))
 low:Below w.heap.size w wr
theorem sD.step {w:World} {a b k j:Nat} {wr w1 w2:World} (h:sD w a b k wr) (hb1:Below wr.heap.size wr w1) (hm:Mod (fun x=>x=w.heap.size+1) w1 w2) (W:Nat) (hW:W=a*(b / 2 ^ j))
 (hc:w2.heap[w.heap.size+1]?=some (gY (hiN W) (mP W))):sD w a b j w2:=by
 subst hW;have h1:=lt_of_heap h.res;have h2:=lt_of_heap h.cur;refine⟨hm.heap ((Mod.of_below hb1).heap h.res (fun h=>h)) (by omega),hc,?_⟩;exact (((Mod.of_below (h.low.trans (hb1.mono h.low.size))).mono (T:=fun x=>w.heap.size<=x) (fun _ _ h=>h.elim)).trans hm (fun i _ h=>by omega)).mono (T:=fun _=>False) (fun i hi h=>by omega) |>.aU
theorem and_one (x:Nat) (hx:x<18446744073709551616):bits .and .u64 (x:Int) 1=((x % 2:Nat):Int):=by
 have:=bits_and_u64_nat x 1 hx (by omega);rw[Nat.and_one_is_mod] at this;exact this
theorem yc (a b:Nat) (ha:a<18446744073709551616) (hb:b<18446744073709551616) (w:World) :
 Calls Tryz.prog 117 #[.int .u64 (a:Nat),.int .u64 (b:Nat)] w fun e w'=>e=.returned (.agg #[.int .u64 (hiN (a*b):Nat),.int .u64 (mP (a*b):Nat)])/\Below w.heap.size w w':=by
 have START:=zq (show sD w a b 64 ((w.alloc (gY 0 0)).alloc (gY 0 0)) from by
  refine⟨?_,?_,(Zb).alloc (by simp) _⟩
  ·exact (Below.heap_alloc _ _ _ (by simp)).trans (heap_alloc_new w _)
  rw[Nat.div_eq_of_lt (show b<2 ^ 64 by omega),Nat.mul_zero];have:=heap_alloc_new (w.alloc (gY 0 0)) (gY 0 0)
  simpa [hiN,mP] using this)
 unfold gY at START;have HAB:=zq (And.intro ha hb);obtain⟨RH,hRH⟩:=Zn (hiN (a*b));obtain⟨RL,hRL⟩:=Zn (mP (a*b));rw[<-hRH,<-hRL];have RHL:=zq (And.intro hRH hRL);clear hRH hRL;clear ha hb
 go_enter Tryz.func117,Tryz.ntmps117
 go_wp2_with fail
 go_loopw [6] (fun i wr=>∃ k:Nat,k<=64/\i=.int .i64 ((k:Int) - 1)/\sD w a b k wr) (fun i _=>(intOf i+1).toNat)
 case atStart=>exact⟨64,by omega,rfl,START.o⟩
 obtain⟨k,hk,rfl,hT⟩:=hrel;have T:=zq hT;clear hT;have res0:=cell_of_heap T.o.res 0;have cur:=T.o.cur;unfold gY at cur;have c0:=cell_of_heap cur 0;have c1:=cell_of_heap cur 1;have f0:=aP cur;clear cur
 cases k with
 | zero =>
   have T0:=T.o.cur;rw[show a*(b / 2 ^ 0)=a*b from by rw[Nat.pow_zero,Nat.div_one]] at T0 c0 c1;rw[<-RHL.o.1,<-RHL.o.2] at c0 c1;have res:=T.o.res;unfold gY at res;have g0:=cell_of_heap res 0;have g1:=cell_of_heap res 1;have fr:=aP res;have SZ:=lt_of_heap res;clear res T0 res0
   go_wp2_with fail
   refine bodyPost_ret (v:=.agg #[.int .u64 (RH:Nat),.int .u64 (RL:Nat)]) (by simp[results,Tryz.results117,go_sem,g0,g1,fr]) rfl ⟨rfl,?_⟩;exact ((((Mod.of_below T.o.low).mono (T:=fun x=>w.heap.size<=x) (fun _ _ h=>h.elim)).setCell _ (fun _=>Nat.le_refl _)).setCell _ (fun _=>Nat.le_refl _)).mono (T:=fun _=>False) (fun i hi h=>by omega) |>.aU
 | succ j =>
   rw[show ((j+1:Nat):Int) - 1=(j:Int) from by omega];have hj:(j:Int)<=63:=by omega
   obtain⟨W,hW⟩:=Zn (a*(b / 2 ^ (j+1)));rw[<-hW] at c0 c1;obtain⟨h,hh⟩:=Zn (hiN W);obtain⟨l,hl⟩:=Zn (mP W);obtain⟨h',hh'⟩:=Zn (hiN (2*W+0));obtain⟨l',hl'⟩:=Zn (mP (2*W+0));rw[<-hh,<-hl] at c0 c1;have Wlt:W<170141183460469231731687303715884105728:=by
    have h1:b / 2 ^ (j+1)<9223372036854775808:=by
     have:=HAB.o.2;have h2:2<=2 ^ (j+1):=by rw[Nat.pow_succ];have:=Nat.two_pow_pos j;omega
     have h3:=Nat.div_le_div_left (a:=b) h2 (by omega);omega
    have h4:W<=18446744073709551615*9223372036854775807:=by rw[hW];exact Nat.mul_le_mul (by have:=HAB.o.1;omega) (by omega)
    omega
   have TW:=zq (fun w=>zG W 0 w Wlt (by omega) h l hh hl h' l' hh' hl');obtain⟨bs,hbs⟩:=Zn (b / 2 ^ j);have bsl:bs<18446744073709551616:=by rw[hbs];have:=Nat.div_le_self b (2 ^ j);have:=HAB.o.2;omega
   obtain⟨bt,hbt⟩:=Zn (bs % 2);have hmj:min j 64=j:=by omega
   have hq1:(b:Int) / 2 ^ j=(bs:Nat):=by rw[hbs];simp
   have hq2:bits .and .u64 (bs:Int) 1=(bt:Nat):=by rw[and_one bs bsl,hbt]
   have STEP:=zq (show a*(b / 2 ^ j)=2*W+if bt=1 then a else 0 from by rw[Hq a b j,<-hW,hbt,hbs]);have BND:=zq (show a*(b / 2 ^ j)<=18446744073709551615*18446744073709551615 from Nat.mul_le_mul (by have:=HAB.o.1;omega) (by rw[<-hbs];omega));have W2:=zq (show h'*18446744073709551616+l'=2*W from by rw[hh',hl'];have:=Me (2*W+0);omega);have L2:=zq (show l'<18446744073709551616 from by rw[hl'];exact Ir _);have WW:=zq Wlt;have HL:=zq (And.intro hh' hl');have bt2:bt=0\/bt=1:=by omega
   clear hW hh hl hh' hl' Wlt hbt hbs bsl
   go_wp2_with fail
   refine (TW.o _).mono ?_;rintro e w1 ⟨rfl,hb1⟩;have e1:=(Mod.of_below hb1).heap T.o.cur (fun h=>h);unfold gY at e1;have d0:=cell_of_heap e1 0;have d1:=cell_of_heap e1 1;have f1:=aP e1;have E1:=zq e1;have HB1:=zq hb1;clear e1 hb1 c0 c1 f0 res0;rcases bt2 with rfl|rfl
   ·have NX:=zq (T.o.step (w2:=(w1.setCell ⟨w.heap.size+1,0,none⟩ (.int .u64 (h':Nat))).setCell ⟨w.heap.size+1,1,none⟩ (.int .u64 (l':Nat))) HB1.o
     (((Mod.refl (fun x=>x=w.heap.size+1) w1).setCell _ (fun _=>rfl)).setCell _ (fun _=>rfl)) (2*W) (by rw[STEP.o];simp)
     (by rw[show hiN (2*W)=h' from HL.o.1.symm,show mP (2*W)=l' from HL.o.2.symm];exact eu (eu E1.o 0 _ _ rfl) 1 _ _ rfl))
    go_wp2_with fail
    go_roundw
    case rel=>exact⟨j,by omega,rfl,NX.o⟩
    case measure=>first|(simp[intOf];done)|(simp[intOf];omega)
   obtain⟨lw,hlw⟩:=Zn ((l'+a) % 18446744073709551616);have hA:=HAB.o.1;have hL:=L2.o;have hw:IntKind.u64.wrap ((l':Int)+(a:Int))=(lw:Nat):=by rw[wrap_u64];omega
   by_cases hcar:lw<a
   ·have hcar':(lw:Int)<(a:Int):=by omega
    have hW':=W2.o;have hWW:=BND.o;rw[STEP.o,if_pos rfl] at hWW;have hx:(h':Int)<=18446744073709551614:=by omega
    have NX:=zq (T.o.step (w2:=(((w1.setCell ⟨w.heap.size+1,0,none⟩ (.int .u64 (h':Nat))).setCell ⟨w.heap.size+1,1,none⟩ (.int .u64 (l':Nat))).setCell ⟨w.heap.size+1,0,none⟩ (.int .u64 ((h':Int)+1))).setCell ⟨w.heap.size+1,1,none⟩ (.int .u64 (lw:Nat))) HB1.o
     (((((Mod.refl (fun x=>x=w.heap.size+1) w1).setCell _ (fun _=>rfl)).setCell _ (fun _=>rfl)).setCell _ (fun _=>rfl)).setCell _ (fun _=>rfl)) (2*W+a) (by rw[STEP.o];simp)
     (by
      rw[show hiN (2*W+a)=h'+1 from by unfold hiN;omega,show mP (2*W+a)=lw from by unfold mP;omega];exact eu (eu (eu (eu E1.o 0 _ _ rfl) 1 _ _ rfl) 0 _ _ rfl) 1 _ _ rfl))
    clear hlw hA hL hW' hWW hcar
    go_wp2_with fail
    go_roundw
    case rel=>exact⟨j,by omega,rfl,NX.o⟩
    case measure=>first|(simp[intOf];done)|(simp[intOf];omega)
   have hcar':¬ (lw:Int)<(a:Int):=by omega
   have hW':=W2.o;have NX:=zq (T.o.step (w2:=((w1.setCell ⟨w.heap.size+1,0,none⟩ (.int .u64 (h':Nat))).setCell ⟨w.heap.size+1,1,none⟩ (.int .u64 (l':Nat))).setCell ⟨w.heap.size+1,1,none⟩ (.int .u64 (lw:Nat))) HB1.o
    ((((Mod.refl (fun x=>x=w.heap.size+1) w1).setCell _ (fun _=>rfl)).setCell _ (fun _=>rfl)).setCell _ (fun _=>rfl)) (2*W+a) (by rw[STEP.o];simp)
    (by
     rw[show hiN (2*W+a)=h' from by unfold hiN;omega,show mP (2*W+a)=lw from by unfold mP;omega];exact eu (eu (eu E1.o 0 _ _ rfl) 1 _ _ rfl) 1 _ _ rfl))
   clear hlw hA hL hW' hcar
   go_wp2_with fail
   go_roundw
   case rel=>exact⟨j,by omega,rfl,NX.o⟩
   case measure=>first|(simp[intOf];done)|(simp[intOf];omega)
structure wO (w:World) (N c:Nat) (k:Nat) (wr:World):Prop where
 arg:wr.heap[w.heap.size]?=some (gY (hiN N) (mP N))
 res:wr.heap[w.heap.size+1]?=some (gY 0 0)
 cur:wr.heap[w.heap.size+2]?=some (gY (hiN (N / 2 ^ k / c)) (mP (N / 2 ^ k / c)))
 low:Below w.heap.size w wr
theorem wO.step {w:World} {N c k j:Nat} {wr w1 w2:World} (h:wO w N c k wr) (hb1:Below wr.heap.size wr w1) (hm:Mod (fun x=>x=w.heap.size+2) w1 w2) (W:Nat) (hW:W=N / 2 ^ j / c)
 (hc:w2.heap[w.heap.size+2]?=some (gY (hiN W) (mP W))):wO w N c j w2:=by
 subst hW;have h1:=lt_of_heap h.res;have h2:=lt_of_heap h.cur;refine⟨hm.heap ((Mod.of_below hb1).heap h.arg (fun h=>h)) (by omega),hm.heap ((Mod.of_below hb1).heap h.res (fun h=>h)) (by omega),hc,?_⟩;exact (((Mod.of_below (h.low.trans (hb1.mono h.low.size))).mono (T:=fun x=>w.heap.size<=x) (fun _ _ h=>h.elim)).trans hm (fun i _ h=>by omega)).mono (T:=fun _=>False) (fun i hi h=>by omega) |>.aU
theorem Qe (N j:Nat) (hN:N<340282366920938463463374607431768211456) (hj:j<=127):(if 63<j then hiN N / 2 ^ (j % 64) else mP N / 2 ^ (j % 64)) % 2=N / 2 ^ j % 2:=by
 by_cases h:63<j
 ·rw[if_pos h];have e:2 ^ j=18446744073709551616*2 ^ (j % 64):=by
   have h1:j=64+j % 64:=by omega
   conv=>lhs;rw[h1,Nat.pow_add]
  unfold hiN;rw[e,Nat.div_div_eq_div_mul]
 rw[if_neg h,show j % 64=j from Nat.mod_eq_of_lt (by omega)];unfold mP;have e:(18446744073709551616:Nat)=2 ^ j*2 ^ (64 - j):=by rw[<-Nat.pow_add,show j+(64 - j)=64 by omega]
 have h1:N % 18446744073709551616 / 2 ^ j=N / 2 ^ j % 2 ^ (64 - j):=by rw[e,Nat.mod_mul_right_div_self]
 rw[h1];have h2:2 ^ (64 - j)=2*2 ^ (63 - j):=by rw[<-Nat.pow_succ'];congr 1;omega
 rw[h2,Nat.mod_mul_right_mod]
theorem Qc (j:Nat) (hj:j<=127):bits .and .i64 (j:Int) 63=((j % 64:Nat):Int):=by
 have h:∀ x:Fin 128,bits .and .i64 ((x.val:Nat):Int) 63=((x.val % 64:Nat):Int):=by decide +kernel
 exact h ⟨j,by omega⟩
theorem J7 (N c:Nat) (hN:N<340282366920938463463374607431768211456) (hc:0<c) (hc':c<=4611686018427387904) (H L:Nat) (hH:H=hiN N) (hL:L=mP N) (w:World) :
 Calls Tryz.prog 116 #[.agg #[.int .u64 (H:Nat),.int .u64 (L:Nat)],.int .u64 (c:Nat)] w fun e w'=>e=.returned (.tuple #[.agg #[.int .u64 (hiN (N / c):Nat),.int .u64 (mP (N / c):Nat)],.int .u64 ((N % c:Nat):Int)])/\Below w.heap.size w w':=by
 have START:=zq (show wO w N c 128 (((w.alloc (gY H L)).alloc (gY 0 0)).alloc (gY 0 0)) from by
  refine⟨?_,?_,?_,((Zb).alloc (by simp) _).alloc (by simp;omega) _⟩
  ·rw[<-hH,<-hL];exact (Below.heap_alloc _ _ _ (by simp;omega)).trans ((Below.heap_alloc _ _ _ (by simp)).trans (heap_alloc_new w _))
  ·have:=heap_alloc_new (w.alloc (gY H L)) (gY 0 0);exact (Below.heap_alloc _ _ _ (by simp)).trans (by simpa using this)
  rw[Nat.div_eq_of_lt (show N<2 ^ 128 by omega),Nat.zero_div];have:=heap_alloc_new ((w.alloc (gY H L)).alloc (gY 0 0)) (gY 0 0)
  simpa [hiN,mP] using this)
 unfold gY at START;obtain⟨QH,hQH⟩:=Zn (hiN (N / c));obtain⟨QL,hQL⟩:=Zn (mP (N / c));obtain⟨RM,hRM⟩:=Zn (N % c);rw[<-hQH,<-hQL,<-hRM];have QHL:=zq (And.intro hQH (And.intro hQL hRM));have HN:=zq hN;have HC:=zq (And.intro hc hc');have HH:=zq (And.intro hH hL);have r0:=Nat.div_eq_of_lt (show N<2 ^ 128 by omega);have R0:=zq (show 0=N / 2 ^ 128 % c from by rw[r0,Nat.zero_mod]);clear hQH hQL hRM hN hc hH hL r0
 go_enter Tryz.func116,Tryz.ntmps116
 go_wp2_with fail
 go_loopw [7,8] (fun rs i wr=>∃ k r:Nat,k<=128/\i=.int .i64 ((k:Int) - 1)/\rs=.int .u64 (r:Nat)/\r<c/\Hid (r=N / 2 ^ k % c)/\wO w N c k wr) (fun _ i _=>(intOf i+1).toNat)
 case atStart=>exact⟨128,0,by omega,rfl,rfl,HC.o.1,R0,START.o⟩
 obtain⟨k,r,hk,rfl,rfl,hrc,hr,hT⟩:=hrel;have T:=zq hT;clear hT;have cur:=T.o.cur;unfold gY at cur;have c0:=cell_of_heap cur 0;have c1:=cell_of_heap cur 1;have f0:=aP cur;clear cur
 cases k with
 | zero =>
   rw[show N / 2 ^ 0 / c=N / c from by rw[Nat.pow_zero,Nat.div_one]] at c0 c1;rw[<-QHL.o.1,<-QHL.o.2.1] at c0 c1;have hrm:=zq (show RM=r from by rw[QHL.o.2.2,hr.o,Nat.pow_zero,Nat.div_one]);have res:=T.o.res;unfold gY at res;have g0:=cell_of_heap res 0;have g1:=cell_of_heap res 1;have fr:=aP res;have SZ:=lt_of_heap res;clear res
   go_wp2_with fail
   rw[hrm.o];refine bodyPost_ret (v:=.tuple #[.agg #[.int .u64 (QH:Nat),.int .u64 (QL:Nat)],.int .u64 (r:Nat)]) (by simp[results,Tryz.results116,go_sem,g0,g1,fr]) rfl ⟨rfl,?_⟩;exact ((((Mod.of_below T.o.low).mono (T:=fun x=>w.heap.size<=x) (fun _ _ h=>h.elim)).setCell _ (fun _=>Nat.le_succ _)).setCell _ (fun _=>Nat.le_succ _)).mono (T:=fun _=>False) (fun i hi h=>by omega) |>.aU
 | succ j =>
   rw[show ((j+1:Nat):Int) - 1=(j:Int) from by omega];have hj:(j:Int)<=127:=by omega
   have arg:=T.o.arg;unfold gY at arg;have a0:=cell_of_heap arg 0;have a1:=cell_of_heap arg 1;rw[<-HH.o.1,<-HH.o.2] at a0 a1;clear arg;obtain⟨W,hW⟩:=Zn (N / 2 ^ (j+1) / c);rw[<-hW] at c0 c1;obtain⟨h,hh⟩:=Zn (hiN W);obtain⟨l,hl⟩:=Zn (mP W);rw[<-hh,<-hl] at c0 c1;have Wlt:W<170141183460469231731687303715884105728:=by
    have h2:2<=2 ^ (j+1):=by rw[Nat.pow_succ];have:=Nat.two_pow_pos j;omega
    have h3:=Nat.div_le_div_left (a:=N) h2 (by omega);have h4:=Nat.div_le_self (N / 2 ^ (j+1)) c;have:=HN.o;omega
   obtain⟨jm,hjm⟩:=Zn (j % 64);have hjl:(jm:Int)<=63:=by omega
   have hmj:min jm 64=jm:=by omega
   have hand:bits .and .i64 (j:Int) 63=(jm:Nat):=by rw[Qc j (by omega),hjm]
   obtain⟨x1,hx1⟩:=Zn (L / 2 ^ jm);obtain⟨x2,hx2⟩:=Zn (H / 2 ^ jm);have bl:x1<18446744073709551616/\x2<18446744073709551616:=by
    have h1:=Nat.div_le_self L (2 ^ jm);have h2:=Nat.div_le_self H (2 ^ jm);have h3:L<18446744073709551616:=by rw[HH.o.2];exact Ir N
    have h4:H<18446744073709551616:=by rw[HH.o.1];unfold hiN;have:=HN.o;omega
    omega
   obtain⟨t1,ht1⟩:=Zn (x1 % 2);obtain⟨t2,ht2⟩:=Zn (x2 % 2);have q1:(L:Int) / 2 ^ jm=(x1:Nat):=by rw[hx1];simp
   have q2:(H:Int) / 2 ^ jm=(x2:Nat):=by rw[hx2];simp
   have q3:bits .and .u64 (x1:Int) 1=(t1:Nat):=by rw[and_one x1 bl.1,ht1]
   have q4:bits .and .u64 (x2:Int) 1=(t2:Nat):=by rw[and_one x2 bl.2,ht2]
   obtain⟨t,ht⟩:=Zn ((if 63<j then t2 else t1));have BIT:t=N / 2 ^ j % 2:=by
    rw[<-Qe N j HN.o (by omega),<-HH.o.1,<-HH.o.2,<-hjm,ht,ht1,ht2,hx1,hx2]
    split <;> rfl
   have hcb:=HC.o.2;obtain⟨s,hs⟩:=Zn (2*r+t);have q5:bits .or .u64 ((r:Int)*2) (t:Int)=(s:Nat):=by
    rw[show (r:Int)*2=((2*r:Nat):Int) from by omega,bits_or_u64_nat _ _ (by omega) (by omega),FH r t (by omega),hs]
   have hr2:(r:Int)<=4611686018427387904:=by omega
   have STEP:=JR N c j HC.o.1;rw[<-hr.o,<-BIT,<-hs,<-hW] at STEP;have SL:s<=9223372036854775809:=by omega
   have hsl:(s:Int)<=9223372036854775809:=by omega
   have ST:=zq STEP;have TW:=zq (fun (bt:Nat) (hb:bt<=1) (h' l':Nat) h3 h4 w=>zG W bt w Wlt hb h l hh hl h' l' h3 h4);have S2:=zq (And.intro hs (show t<=1 by omega));have T63:=zq ht;clear hW hh hl Wlt hjm hx1 hx2 bl ht1 ht2 BIT STEP hs hcb ht;by_cases h63:63<j <;> by_cases hge:c<=s
   ·skip;have ht':=T63.o;rw[if_pos h63] at ht';subst ht';have h63':(63:Int)<(j:Int):=by omega
    have hge':(c:Int)<=(s:Int):=by omega
    obtain⟨h',hh'⟩:=Zn (hiN (2*W+1));obtain⟨l',hl'⟩:=Zn (mP (2*W+1));have TW1:=zq (TW.o 1 (by omega) h' l' hh' hl');have E2:=ST.o;rw[if_pos hge,if_pos hge] at E2;have EQ:=zq E2;have HL:=zq (And.intro hh' hl');clear hh' hl' E2
    go_wp2_with fail
    refine (TW1.o _).mono ?_;rintro e w1 ⟨rfl,hb1⟩;have e1:=(Mod.of_below hb1).heap T.o.cur (fun h=>h);unfold gY at e1;have d0:=cell_of_heap e1 0;have d1:=cell_of_heap e1 1;have f1:=aP e1;have NX:=zq (T.o.step (w2:=(w1.setCell ⟨w.heap.size+2,0,none⟩ (.int .u64 (h':Nat))).setCell ⟨w.heap.size+2,1,none⟩ (.int .u64 (l':Nat))) hb1
     (((Mod.refl (fun x=>x=w.heap.size+2) w1).setCell _ (fun _=>rfl)).setCell _ (fun _=>rfl)) (2*W+1) (by rw[EQ.o.1])
     (by rw[<-HL.o.1,<-HL.o.2];exact eu (eu e1 0 _ _ rfl) 1 _ _ rfl))
    clear e1 hb1 c0 c1 f0 a0 a1
    go_wp2_with fail
    go_roundw
    case rel=>exact⟨j,s - c,by omega,rfl,by first|rfl|go_num,by have:=S2.o;omega,zq EQ.o.2.symm,NX.o⟩
    case measure=>first|(simp[intOf];done)|(simp[intOf];omega)
   ·skip;have ht':=T63.o;rw[if_pos h63] at ht';subst ht';have h63':(63:Int)<(j:Int):=by omega
    have hge':¬ (c:Int)<=(s:Int):=by omega
    obtain⟨h',hh'⟩:=Zn (hiN (2*W+0));obtain⟨l',hl'⟩:=Zn (mP (2*W+0));have TW1:=zq (TW.o 0 (by omega) h' l' hh' hl');have E2:=ST.o;rw[if_neg hge,if_neg hge] at E2;have EQ:=zq E2;have HL:=zq (And.intro hh' hl');clear hh' hl' E2
    go_wp2_with fail
    refine (TW1.o _).mono ?_;rintro e w1 ⟨rfl,hb1⟩;have e1:=(Mod.of_below hb1).heap T.o.cur (fun h=>h);unfold gY at e1;have d0:=cell_of_heap e1 0;have d1:=cell_of_heap e1 1;have f1:=aP e1;have NX:=zq (T.o.step (w2:=(w1.setCell ⟨w.heap.size+2,0,none⟩ (.int .u64 (h':Nat))).setCell ⟨w.heap.size+2,1,none⟩ (.int .u64 (l':Nat))) hb1
     (((Mod.refl (fun x=>x=w.heap.size+2) w1).setCell _ (fun _=>rfl)).setCell _ (fun _=>rfl)) (2*W+0) (by rw[EQ.o.1])
     (by rw[<-HL.o.1,<-HL.o.2];exact eu (eu e1 0 _ _ rfl) 1 _ _ rfl))
    clear e1 hb1 c0 c1 f0 a0 a1
    go_wp2_with fail
    go_roundw
    case rel=>exact⟨j,s,by omega,rfl,by first|rfl|go_num,by omega,zq EQ.o.2.symm,NX.o⟩
    case measure=>first|(simp[intOf];done)|(simp[intOf];omega)
   ·skip;have ht':=T63.o;rw[if_neg h63] at ht';subst ht';have h63':¬ (63:Int)<(j:Int):=by omega
    have hge':(c:Int)<=(s:Int):=by omega
    obtain⟨h',hh'⟩:=Zn (hiN (2*W+1));obtain⟨l',hl'⟩:=Zn (mP (2*W+1));have TW1:=zq (TW.o 1 (by omega) h' l' hh' hl');have E2:=ST.o;rw[if_pos hge,if_pos hge] at E2;have EQ:=zq E2;have HL:=zq (And.intro hh' hl');clear hh' hl' E2
    go_wp2_with fail
    refine (TW1.o _).mono ?_;rintro e w1 ⟨rfl,hb1⟩;have e1:=(Mod.of_below hb1).heap T.o.cur (fun h=>h);unfold gY at e1;have d0:=cell_of_heap e1 0;have d1:=cell_of_heap e1 1;have f1:=aP e1;have NX:=zq (T.o.step (w2:=(w1.setCell ⟨w.heap.size+2,0,none⟩ (.int .u64 (h':Nat))).setCell ⟨w.heap.size+2,1,none⟩ (.int .u64 (l':Nat))) hb1
     (((Mod.refl (fun x=>x=w.heap.size+2) w1).setCell _ (fun _=>rfl)).setCell _ (fun _=>rfl)) (2*W+1) (by rw[EQ.o.1])
     (by rw[<-HL.o.1,<-HL.o.2];exact eu (eu e1 0 _ _ rfl) 1 _ _ rfl))
    clear e1 hb1 c0 c1 f0 a0 a1
    go_wp2_with fail
    go_roundw
    case rel=>exact⟨j,s - c,by omega,rfl,by first|rfl|go_num,by have:=S2.o;omega,zq EQ.o.2.symm,NX.o⟩
    case measure=>first|(simp[intOf];done)|(simp[intOf];omega)
   skip;have ht':=T63.o;rw[if_neg h63] at ht';subst ht';have h63':¬ (63:Int)<(j:Int):=by omega
   have hge':¬ (c:Int)<=(s:Int):=by omega
   obtain⟨h',hh'⟩:=Zn (hiN (2*W+0));obtain⟨l',hl'⟩:=Zn (mP (2*W+0));have TW1:=zq (TW.o 0 (by omega) h' l' hh' hl');have E2:=ST.o;rw[if_neg hge,if_neg hge] at E2;have EQ:=zq E2;have HL:=zq (And.intro hh' hl');clear hh' hl' E2
   go_wp2_with fail
   refine (TW1.o _).mono ?_;rintro e w1 ⟨rfl,hb1⟩;have e1:=(Mod.of_below hb1).heap T.o.cur (fun h=>h);unfold gY at e1;have d0:=cell_of_heap e1 0;have d1:=cell_of_heap e1 1;have f1:=aP e1;have NX:=zq (T.o.step (w2:=(w1.setCell ⟨w.heap.size+2,0,none⟩ (.int .u64 (h':Nat))).setCell ⟨w.heap.size+2,1,none⟩ (.int .u64 (l':Nat))) hb1
    (((Mod.refl (fun x=>x=w.heap.size+2) w1).setCell _ (fun _=>rfl)).setCell _ (fun _=>rfl)) (2*W+0) (by rw[EQ.o.1])
    (by rw[<-HL.o.1,<-HL.o.2];exact eu (eu e1 0 _ _ rfl) 1 _ _ rfl))
   clear e1 hb1 c0 c1 f0 a0 a1
   go_wp2_with fail
   go_roundw
   case rel=>exact⟨j,s,by omega,rfl,by first|rfl|go_num,by omega,zq EQ.o.2.symm,NX.o⟩
   case measure=>first|(simp[intOf];done)|(simp[intOf];omega)
theorem uO (x:Int) (w:World):Calls Tryz.prog 77 #[.int .i64 x] w fun e w'=>e=.returned (.bool (aO x))/\w=w':=by
 obtain⟨b,hb⟩:=Zn (aO x);rw[<-hb];by_cases h1:x<=4611686018427387904
 ·by_cases h2:-4611686018427387904<=x
  ·have B:=zq (hb.trans (aF.2 ⟨h2,h1⟩));clear hb
   go_enter Tryz.func77,Tryz.ntmps77
   go_wp2_with fail
   go_ret;exact⟨aj (by first|(rw[B.o];done)|(rw[B.o,decide_eq_true_iff];omega)),rfl⟩
  have B:=zq (hb.trans (kQ.2 (by omega)));clear hb
  go_enter Tryz.func77,Tryz.ntmps77
  go_wp2_with fail
  go_ret;exact⟨aj (by first|(rw[B.o];done)|(rw[B.o,decide_eq_false_iff_not];omega)),rfl⟩
 have B:=zq (hb.trans (kQ.2 (by omega)));clear hb
 go_enter Tryz.func77,Tryz.ntmps77
 go_wp2_with fail
 go_ret;exact⟨aj (by rw[B.o]),rfl⟩
theorem dA {x:Int} {b:Bool} (hb:aO x=b) (w:World):Calls Tryz.prog 77 #[.int .i64 x] w fun e w'=>e=.returned (.bool b)/\w=w':=by
 rw[<-hb];exact uO x w
theorem oq (a b:Int) (w:World) :
 Calls Tryz.prog 83 #[.int .i64 a,.int .i64 b] w fun e w'=>e=.returned (.tuple #[.int .i64 (dQ a b).1,.int .i64 (dQ a b).2])/\w=w':=by
 obtain⟨R,hR⟩:=Zn (dQ a b);rw[<-hR]
 cases hfa:aO a with
 | false =>
   have ER:=zq (hR.trans (qR (Or.inl hfa)));have FA:=zq hfa;clear hR hfa
   go_enter Tryz.func83,Tryz.ntmps83
   go_wp2_with (go_at_call 77;refine (dA FA.o _).mono ?_;rintro e w' ⟨rfl,rfl⟩)
   go_ret2;rw[ER.o];exact⟨rfl,rfl⟩
 | true =>
 cases hfb:aO b with
 | false =>
   have ER:=zq (hR.trans (qR (Or.inr hfb)));have FA:=zq hfa;have FB:=zq hfb;clear hR hfa hfb
   go_enter Tryz.func83,Tryz.ntmps83
   go_wp2_with fail
   refine (dA FA.o _).mono ?_;rintro e w' ⟨rfl,rfl⟩
   go_wp2_with fail
   refine (dA FB.o _).mono ?_;rintro e w' ⟨rfl,rfl⟩
   go_wp2_with fail
   go_ret2;rw[ER.o];exact⟨rfl,rfl⟩
 | true =>
 have b1:=aF.1 hfa;have b2:=aF.1 hfb;have FA:=zq hfa;have FB:=zq hfb;obtain⟨l1,l2⟩:=b1;obtain⟨l3,l4⟩:=b2;by_cases hov:aO (a+b)=true
 ·have h3:=aF.1 hov;have ER:=zq (hR.trans (show _=(a+b,(0:Int)) from by unfold dQ;rw[if_pos ⟨hfa,hfb,hov⟩]));obtain⟨l5,l6⟩:=h3;have three:(0<a/\¬ 4611686018427387904 - a<b)\/(¬ 0<a/\a<0/\¬ b < -4611686018427387904 - a)\/(¬ 0<a/\¬ a<0):=by omega
  clear hR hfa hfb hov;rcases three with ⟨h1,h2⟩|⟨h1,h2,h3⟩|⟨h1,h2⟩
  all_goals
   go_enter Tryz.func83,Tryz.ntmps83
   go_wp2_with fail
   refine (dA FA.o _).mono ?_;rintro e w' ⟨rfl,rfl⟩
   go_wp2_with fail
   refine (dA FB.o _).mono ?_;rintro e w' ⟨rfl,rfl⟩
   go_wp2_with fail
   go_ret2;rw[ER.o];exact⟨rfl,rfl⟩
 have h3:=kQ.1 (by simpa using hov);have ER:=zq (hR.trans (show _=((0,4):Int×Int) from by unfold dQ;rw[if_neg (fun h=>hov h.2.2)]));have two:(0<a/\4611686018427387904 - a<b)\/(¬ 0<a/\a<0/\b < -4611686018427387904 - a):=by omega
 clear hR hfa hfb hov h3;rcases two with ⟨h1,h2⟩|⟨h1,h2,h3⟩
 all_goals
  go_enter Tryz.func83,Tryz.ntmps83
  go_wp2_with fail
  refine (dA FA.o _).mono ?_;rintro e w' ⟨rfl,rfl⟩
  go_wp2_with fail
  refine (dA FB.o _).mono ?_;rintro e w' ⟨rfl,rfl⟩
  go_wp2_with fail
  go_ret2;rw[ER.o];exact⟨rfl,rfl⟩
theorem uT {a b:Int} (h:aO a=false\/aO b=false):fK a b=(0,4):=by
 unfold fK;rw[if_neg];rintro⟨h1,h2,_⟩;rcases h with h|h <;> simp_all
theorem D6 {a b:Int} (hb:aO b=true):fK a b=dQ a (-b):=by
 have h:=aF.1 hb;have hn:aO (-b)=true:=aF.2 (by omega);unfold fK dQ;rw[hb,hn,Int.sub_eq_add_neg]
theorem qK (a b:Int) (w:World) :
 Calls Tryz.prog 36 #[.int .i64 a,.int .i64 b] w fun e w'=>e=.returned (.tuple #[.int .i64 (fK a b).1,.int .i64 (fK a b).2])/\w=w':=by
 obtain⟨R,hR⟩:=Zn (fK a b);rw[<-hR]
 cases hfa:aO a with
 | false =>
   have ER:=zq (hR.trans (uT (Or.inl hfa)));have FA:=zq hfa;clear hR hfa
   go_enter Tryz.func36,Tryz.ntmps36
   go_wp2_with (go_at_call 77;refine (dA FA.o _).mono ?_;rintro e w' ⟨rfl,rfl⟩)
   go_ret2;rw[ER.o];exact⟨rfl,rfl⟩
 | true =>
 cases hfb:aO b with
 | false =>
   have ER:=zq (hR.trans (uT (Or.inr hfb)));have FA:=zq hfa;have FB:=zq hfb;clear hR hfa hfb
   go_enter Tryz.func36,Tryz.ntmps36
   go_wp2_with fail
   refine (dA FA.o _).mono ?_;rintro e w' ⟨rfl,rfl⟩
   go_wp2_with fail
   refine (dA FB.o _).mono ?_;rintro e w' ⟨rfl,rfl⟩
   go_wp2_with fail
   go_ret2;rw[ER.o];exact⟨rfl,rfl⟩
 | true =>
   have ER:=zq (hR.trans (D6 hfb));obtain⟨l3,l4⟩:=aF.1 hfb;have FA:=zq hfa;have FB:=zq hfb;clear hR hfa hfb
   go_enter Tryz.func36,Tryz.ntmps36
   go_wp2_with fail
   refine (dA FA.o _).mono ?_;rintro e w' ⟨rfl,rfl⟩
   go_wp2_with fail
   refine (dA FB.o _).mono ?_;rintro e w' ⟨rfl,rfl⟩
   go_wp2_with fail
   refine (oq a (-b) _).mono ?_;rw[<-ER.o];rintro e w' ⟨rfl,rfl⟩
   go_wp2_with fail
   go_ret2;exact⟨rfl,rfl⟩
theorem fJ (W:Nat) (h l:Nat) (hh:h=hiN W) (hl:l=mP W) (neg:Bool) (w:World) :
 Calls Tryz.prog 119 #[.agg #[.int .u64 (h:Nat),.int .u64 (l:Nat)],.bool neg] w fun e w'=>e=.returned (.tuple #[.int .i64 (kF W neg).1,.int .i64 (kF W neg).2])/\Below w.heap.size w w':=by
 have hW:=Me W;have ll:=Ir W;rw[<-hh,<-hl] at hW;rw[<-hl] at ll;clear hh hl;by_cases hb:0<h\/4611686018427387904<l
 ·have E:=zq (nY (q:=W) (neg:=neg) (by omega));rw[E.o];have two:(0:Int)<(h:Int)\/(¬ (0:Int)<(h:Int)/\(4611686018427387904:Int)<(l:Int)):=by omega
  clear hb hW ll;rcases two with h1|⟨h1,h2⟩
  all_goals
   go_enter Tryz.func119,Tryz.ntmps119
   go_wp2_with fail
   go_ret2;exact⟨rfl,Zb⟩
 have h0:h=0:=by omega
 subst h0;have hlW:l=W:=by omega
 subst hlW;have hlo:l<=4611686018427387904:=by omega
 have E:=zq (uM (neg:=neg) hlo);rw[E.o];have h2:¬ (4611686018427387904:Int)<(l:Int):=by omega
 have h3:(l:Int)<=4611686018427387904:=by omega
 clear hb hW ll
 cases neg
 all_goals
  go_enter Tryz.func119,Tryz.ntmps119
  go_wp2_with fail
  go_ret2;exact⟨bP (by first|rfl|(simp[IntKind.wrap_i64];done)|(simp[IntKind.wrap_i64];omega)) rfl,Zb⟩
theorem qJ (a b:Int) (w:World) :
 Calls Tryz.prog 82 #[.int .i64 a,.int .i64 b] w fun e w'=>e=.returned (.tuple #[.int .i64 (fG a b).1,.int .i64 (fG a b).2])/\Below w.heap.size w w':=by
 obtain⟨R,hR⟩:=Zn (fG a b);rw[<-hR]
 cases hfa:aO a with
 | false =>
   have ER:=zq (hR.trans (qV (Or.inl hfa)));have FA:=zq hfa;clear hR hfa
   go_enter Tryz.func82,Tryz.ntmps82
   go_wp2_with (go_at_call 77;refine (dA FA.o _).mono ?_;rintro e w' ⟨rfl,rfl⟩)
   go_ret2;rw[ER.o];exact⟨rfl,Below.refl _ _⟩
 | true =>
 cases hfb:aO b with
 | false =>
   have ER:=zq (hR.trans (qV (Or.inr hfb)));have FA:=zq hfa;have FB:=zq hfb;clear hR hfa hfb
   go_enter Tryz.func82,Tryz.ntmps82
   go_wp2_with fail
   refine (dA FA.o _).mono ?_;rintro e w' ⟨rfl,rfl⟩
   go_wp2_with fail
   refine (dA FB.o _).mono ?_;rintro e w' ⟨rfl,rfl⟩
   go_wp2_with fail
   go_ret2;rw[ER.o];exact⟨rfl,Below.refl _ _⟩
 | true =>
 have b1:=aF.1 hfa;have b2:=aF.1 hfb;obtain⟨sg,hsg⟩:=Zn ((decide (a<0) != decide (b<0)));have ER:=zq (hR.trans (show _=kF (a.natAbs*b.natAbs) sg from by unfold fG;rw[if_pos ⟨hfa,hfb⟩,hsg]));have FA:=zq hfa;have FB:=zq hfb;clear hR hfa hfb;obtain⟨x,hx⟩:=Zn a.natAbs;obtain⟨y,hy⟩:=Zn b.natAbs;rw[<-hx,<-hy] at ER;have TM:=zq (fun w=>yc x y (by omega) (by omega) w);obtain⟨h,hh⟩:=Zn (hiN (x*y));obtain⟨l,hl⟩:=Zn (mP (x*y));rw[<-hh,<-hl] at TM;have OF:=zq (fun w=>fJ (x*y) h l hh hl sg w);rw[<-ER.o] at OF;have X:=zq hx;have Y:=zq hy;have SG:=zq hsg;clear hx hy hh hl b1 b2 hsg
 go_enter Tryz.func82,Tryz.ntmps82
 go_wp2_with fail
 refine (dA FA.o _).mono ?_;rintro e w' ⟨rfl,rfl⟩
 go_wp2_with fail
 refine (dA FB.o _).mono ?_;rintro e w' ⟨rfl,rfl⟩
 go_wp2_with fail
 refine (qH _ FA.o _).mono ?_;rw[<-X.o];rintro e w' ⟨rfl,rfl⟩
 go_wp2_with fail
 refine (qH _ FB.o _).mono ?_;rw[<-Y.o];rintro e w' ⟨rfl,rfl⟩
 go_wp2_with fail
 refine (TM.o _).mono ?_;rintro e w1 ⟨rfl,hb1⟩
 go_wp2_with fail
 rw[show (!(decide (a<0)==decide (b<0)))=sg from SG.o.symm];refine (OF.o _).mono ?_;rintro e w2 ⟨rfl,hb2⟩
 go_wp2_with fail
 go_ret2;exact⟨bP rfl rfl,hb1.trans (hb2.mono hb1.size)⟩
theorem Oa (a b c mode:Int) (w:World) (hbad:aO a=false\/aO b=false\/aO c=false) :
 Calls Tryz.prog 81 #[.int .i64 a,.int .i64 b,.int .i64 c,.int .i64 mode] w fun e w'=>e=.returned (.tuple #[.int .i64 (iT a b c mode).1,.int .i64 (iT a b c mode).2])/\Below w.heap.size w w':=by
 obtain⟨R,hR⟩:=Zn (iT a b c mode);rw[<-hR];have ER:=zq (hR.trans (show iT a b c mode=(0,4) from by
  unfold iT;rw[if_pos];rintro⟨h1,h2,h3⟩;rcases hbad with h|h|h <;> simp_all))
 clear hR
 cases hfa:aO a with
 | false =>
   have FA:=zq hfa;clear hfa hbad
   go_enter Tryz.func81,Tryz.ntmps81
   go_wp2_with (go_at_call 77;refine (dA FA.o _).mono ?_;rintro e w' ⟨rfl,rfl⟩)
   go_ret2;rw[ER.o];exact⟨rfl,Below.refl _ _⟩
 | true =>
 have FA:=zq hfa
 cases hfb:aO b with
 | false =>
   have FB:=zq hfb;clear hfa hfb hbad
   go_enter Tryz.func81,Tryz.ntmps81
   go_wp2_with fail
   refine (dA FA.o _).mono ?_;rintro e w' ⟨rfl,rfl⟩
   go_wp2_with fail
   refine (dA FB.o _).mono ?_;rintro e w' ⟨rfl,rfl⟩
   go_wp2_with fail
   go_ret2;rw[ER.o];exact⟨rfl,Below.refl _ _⟩
 | true =>
 have FB:=zq hfb;have FC:=zq (show aO c=false from by rcases hbad with h|h|h <;> simp_all);clear hfa hfb hbad
 go_enter Tryz.func81,Tryz.ntmps81
 go_wp2_with fail
 refine (dA FA.o _).mono ?_;rintro e w' ⟨rfl,rfl⟩
 go_wp2_with fail
 refine (dA FB.o _).mono ?_;rintro e w' ⟨rfl,rfl⟩
 go_wp2_with fail
 refine (dA FC.o _).mono ?_;rintro e w' ⟨rfl,rfl⟩
 go_wp2_with fail
 go_ret2;rw[ER.o];exact⟨rfl,Below.refl _ _⟩
theorem Pv (a b c mode:Int) (ha:aO a=true) (hb:aO b=true) (hc:aO c=true) (w:World) (hbad:c=0\/mode<0\/3<mode) :
 Calls Tryz.prog 81 #[.int .i64 a,.int .i64 b,.int .i64 c,.int .i64 mode] w fun e w'=>e=.returned (.tuple #[.int .i64 (iT a b c mode).1,.int .i64 (iT a b c mode).2])/\Below w.heap.size w w':=by
 obtain⟨R,hR⟩:=Zn (iT a b c mode);rw[<-hR];have FA:=zq ha;have FB:=zq hb;have FC:=zq hc;have ER:=zq (hR.trans (show iT a b c mode=(0,1) from by
  unfold iT;rw[if_neg (by simp[ha,hb,hc]),if_pos hbad]))
 clear ha hb hc hR;have three:(c==0)=true\/((c==0)=false/\mode<0)\/((c==0)=false/\¬ mode<0/\3<mode):=by
  by_cases h0:c=0
  ·left;simp[h0]
  right;simp[h0];omega
 clear hbad;rcases three with h|⟨h,h2⟩|⟨h,h2,h3⟩
 all_goals
  go_enter Tryz.func81,Tryz.ntmps81
  go_wp2_with fail
  refine (dA FA.o _).mono ?_;rintro e w' ⟨rfl,rfl⟩
  go_wp2_with fail
  refine (dA FB.o _).mono ?_;rintro e w' ⟨rfl,rfl⟩
  go_wp2_with fail
  refine (dA FC.o _).mono ?_;rintro e w' ⟨rfl,rfl⟩
  go_wp2_with fail
  go_ret2;rw[ER.o];exact⟨rfl,Below.refl _ _⟩
theorem fQ {w w2 w3 wx:World} (h:Below w.heap.size w w2) (h3:Below wx.heap.size wx w3) (hx:Mod (fun k=>w2.heap.size<=k) w2 wx:=by first|exact (Mod.refl _ _).alloc _|exact ((Mod.refl _ _).alloc _).setCell _ (fun _=>Nat.le_refl _)|exact (((Mod.refl _ _).alloc _).setCell _ (fun _=>Nat.le_refl _)).setCell _ (fun _=>Nat.le_refl _)):Below w.heap.size w w3 :=
 ((Mod.of_below h).trans ((hx.trans (Mod.of_below h3) (fun _ _ h=>h.elim)).mono (T:=fun _=>False) (fun i hi h=>by omega)) (fun _ _ h=>h)).aU
theorem Ob (a b c mode:Int) (ha:aO a=true) (hb:aO b=true) (hc:aO c=true) (w:World) (hc0:c≠0) (hm0:0<=mode) (hm3:mode<=3) :
 Calls Tryz.prog 81 #[.int .i64 a,.int .i64 b,.int .i64 c,.int .i64 mode] w fun e w'=>e=.returned (.tuple #[.int .i64 (iT a b c mode).1,.int .i64 (iT a b c mode).2])/\Below w.heap.size w w':=by
 have FA:=zq ha;have FB:=zq hb;have FC:=zq hc;obtain⟨R,hR⟩:=Zn (iT a b c mode);rw[<-hR];have ba:=aF.1 ha;have bb:=aF.1 hb;have bc:=aF.1 hc;obtain⟨x,hx⟩:=Zn a.natAbs;obtain⟨y,hy⟩:=Zn b.natAbs;obtain⟨z,hz⟩:=Zn c.natAbs;obtain⟨ng,hng⟩:=Zn (CJ a b c);obtain⟨n1,hn1⟩:=Zn ((decide (a<0) != decide (b<0)));have N2:=zq (show ng=(n1 != decide (c<0)) from by rw[hng,hn1];rfl);obtain⟨q,hq⟩:=Zn (x*y / z);obtain⟨r,hr⟩:=Zn (x*y % z);have ER:=zq (show R=kF (q+if r≠0/\Ac mode ng=true then 1 else 0) ng from by
  rw[hR,hq,hr];unfold iT;rw[if_neg (by simp[ha,hb,hc]),if_neg (by omega),<-hx,<-hy,<-hz,<-hng])
 have hxy:x*y<=4611686018427387904*4611686018427387904:=Nat.mul_le_mul (by omega) (by omega);have TM:=zq (fun w=>yc x y (by omega) (by omega) w);obtain⟨h,hh⟩:=Zn (hiN (x*y));obtain⟨l,hl⟩:=Zn (mP (x*y));rw[<-hh,<-hl] at TM;have OV:=zq (fun w=>J7 (x*y) z (by omega) (by omega) (by omega) h l hh hl w);rw[<-hq,<-hr] at OV;have QB:=zq (show q<=4611686018427387904*4611686018427387904 from by rw[hq];exact Nat.le_trans (Nat.div_le_self _ _) hxy);have X:=zq hx;have Y:=zq hy;have ZZ:=zq hz;have N1:=zq hn1;have hc1:(c==0)=false:=by simpa using hc0
 clear ha hb hc hR ba bb bc hx hy hz hng hn1 hq hr hh hl hxy hc0;obtain⟨qh,hqh⟩:=Zn (hiN q);obtain⟨ql,hql⟩:=Zn (mP q);rw[<-hqh,<-hql] at OV;have QHL:=zq (And.intro hqh hql);clear hqh hql
 go_enter Tryz.func81,Tryz.ntmps81
 go_wp2_with fail
 refine (dA FA.o _).mono ?_;rintro e w' ⟨rfl,rfl⟩
 go_wp2_with fail
 refine (dA FB.o _).mono ?_;rintro e w' ⟨rfl,rfl⟩
 go_wp2_with fail
 refine (dA FC.o _).mono ?_;rintro e w' ⟨rfl,rfl⟩
 go_upto_if 42 with (fail)
 rw[show (!(decide (a<0)==decide (b<0)))=n1 from N1.o.symm]
 go_cut [10] from 43 to 44 (fun v10 wx=>v10=.bool ng/\wx=w)
 case first =>
  by_cases hcn:c<0
  ·have e:n1=!ng:=by rw[N2.o,decide_eq_true hcn];cases n1 <;> rfl
   subst e
   go_wp2_with fail
   go_meet
   case rel=>exact⟨by first|rfl|simp,rfl⟩
  have e:n1=ng:=by rw[N2.o,decide_eq_false hcn];cases n1 <;> rfl
  subst e
  go_wp2_with fail
  go_meet
  case rel=>exact⟨rfl,rfl⟩
 case rest =>
  obtain⟨rfl,rfl⟩:=hcut
  go_wp2_with fail
  refine (qH _ FA.o _).mono ?_;rw[<-X.o];rintro e w1 ⟨rfl,rfl⟩
  go_wp2_with fail
  refine (qH _ FB.o _).mono ?_;rw[<-Y.o];rintro e w1 ⟨rfl,rfl⟩
  go_wp2_with fail
  refine (TM.o _).mono ?_;rintro e w1 ⟨rfl,hb1⟩;have B1:=zq hb1;clear hb1
  go_wp2_with fail
  refine (qH _ FC.o _).mono ?_;rw[<-ZZ.o];rintro e w2 ⟨rfl,rfl⟩
  go_wp2_with fail
  refine (OV.o _).mono ?_;rintro e w2 ⟨rfl,hb2⟩;have B2:=zq (B1.o.trans (hb2.mono B1.o.size));clear hb2
  go_upto_region 9 with (fail)
  have m4:mode=0\/mode=1\/mode=2\/mode=3:=by omega
  have hll:ql<18446744073709551616:=by rw[QHL.o.2];exact Ir q
  have LL:=zq hll;have QS:=zq (show qh*18446744073709551616+ql=q from by rw[QHL.o.1,QHL.o.2];exact Me q);clear hm0 hm3 hll;rcases m4 with rfl|rfl|rfl|rfl <;> cases ng <;> by_cases hr0:r=0
  ·have h0:¬ (0:Int)<(r:Int):=by omega
   have EO:=zq (show R=kF q false from by rw[ER.o,if_neg (fun h=>h.1 hr0),Nat.add_zero]);have OF:=zq (fun w=>fJ q qh ql QHL.o.1 QHL.o.2 false w);rw[<-EO.o] at OF;clear hr0
   go_wp2_with fail
   refine (OF.o _).mono ?_;rintro e w3 ⟨rfl,hb3⟩
   go_wp2_with fail
   go_ret2;exact⟨bP rfl rfl,fQ B2.o hb3⟩
  ·have h0:(0:Int)<(r:Int):=by omega
   have EO:=zq (show R=kF q false from by rw[ER.o,if_neg (fun h=>absurd h.2 (by decide)),Nat.add_zero]);have OF:=zq (fun w=>fJ q qh ql QHL.o.1 QHL.o.2 false w);rw[<-EO.o] at OF;clear hr0
   go_wp2_with fail
   refine (OF.o _).mono ?_;rintro e w3 ⟨rfl,hb3⟩
   go_wp2_with fail
   go_ret2;exact⟨bP rfl rfl,fQ B2.o hb3⟩
  ·have h0:¬ (0:Int)<(r:Int):=by omega
   have EO:=zq (show R=kF q true from by rw[ER.o,if_neg (fun h=>h.1 hr0),Nat.add_zero]);have OF:=zq (fun w=>fJ q qh ql QHL.o.1 QHL.o.2 true w);rw[<-EO.o] at OF;clear hr0
   go_wp2_with fail
   refine (OF.o _).mono ?_;rintro e w3 ⟨rfl,hb3⟩
   go_wp2_with fail
   go_ret2;exact⟨bP rfl rfl,fQ B2.o hb3⟩
  ·have h0:(0:Int)<(r:Int):=by omega
   have EO:=zq (show R=kF (q+1) true from by rw[ER.o,if_pos ⟨hr0,by decide⟩]);clear hr0;by_cases hcar:ql=18446744073709551615
   ·have OF:=zq (fun w=>fJ (q+1) (qh+1) 0 (by have:=QS.o;unfold hiN;omega) (by have:=QS.o;unfold mP;omega) true w);rw[<-EO.o] at OF;have hq1:=QS.o;have hq2:=QB.o;have hqb:(qh:Int)<=18446744073709551614:=by omega
    have hw:IntKind.u64.wrap ((ql:Int)+1)=0:=by rw[wrap_u64];omega
    clear hq1 hq2 hcar
    go_wp2_with fail
    refine (OF.o _).mono ?_;rintro e w3 ⟨rfl,hb3⟩;have b3:=hb3.size
    simp at b3
    go_wp2_with fail
    go_ret2;exact⟨bP rfl rfl,fQ B2.o hb3⟩
   have OF:=zq (fun w=>fJ (q+1) qh (ql+1) (by have:=QS.o;have:=LL.o;unfold hiN;omega) (by have:=QS.o;have:=LL.o;unfold mP;omega) true w);rw[<-EO.o] at OF;have hqb:(ql:Int)<=18446744073709551614:=by have:=LL.o;omega
   clear hcar
   go_wp2_with fail
   refine (OF.o _).mono ?_;rintro e w3 ⟨rfl,hb3⟩
   go_wp2_with fail
   go_ret2;exact⟨bP rfl rfl,fQ B2.o hb3⟩
  ·have h0:¬ (0:Int)<(r:Int):=by omega
   have EO:=zq (show R=kF q false from by rw[ER.o,if_neg (fun h=>h.1 hr0),Nat.add_zero]);have OF:=zq (fun w=>fJ q qh ql QHL.o.1 QHL.o.2 false w);rw[<-EO.o] at OF;clear hr0
   go_wp2_with fail
   refine (OF.o _).mono ?_;rintro e w3 ⟨rfl,hb3⟩
   go_wp2_with fail
   go_ret2;exact⟨bP rfl rfl,fQ B2.o hb3⟩
  ·have h0:(0:Int)<(r:Int):=by omega
   have EO:=zq (show R=kF (q+1) false from by rw[ER.o,if_pos ⟨hr0,by decide⟩]);clear hr0;by_cases hcar:ql=18446744073709551615
   ·have OF:=zq (fun w=>fJ (q+1) (qh+1) 0 (by have:=QS.o;unfold hiN;omega) (by have:=QS.o;unfold mP;omega) false w);rw[<-EO.o] at OF;have hq1:=QS.o;have hq2:=QB.o;have hqb:(qh:Int)<=18446744073709551614:=by omega
    have hw:IntKind.u64.wrap ((ql:Int)+1)=0:=by rw[wrap_u64];omega
    clear hq1 hq2 hcar
    go_wp2_with fail
    refine (OF.o _).mono ?_;rintro e w3 ⟨rfl,hb3⟩;have b3:=hb3.size
    simp at b3
    go_wp2_with fail
    go_ret2;exact⟨bP rfl rfl,fQ B2.o hb3⟩
   have OF:=zq (fun w=>fJ (q+1) qh (ql+1) (by have:=QS.o;have:=LL.o;unfold hiN;omega) (by have:=QS.o;have:=LL.o;unfold mP;omega) false w);rw[<-EO.o] at OF;have hqb:(ql:Int)<=18446744073709551614:=by have:=LL.o;omega
   clear hcar
   go_wp2_with fail
   refine (OF.o _).mono ?_;rintro e w3 ⟨rfl,hb3⟩
   go_wp2_with fail
   go_ret2;exact⟨bP rfl rfl,fQ B2.o hb3⟩
  ·have h0:¬ (0:Int)<(r:Int):=by omega
   have EO:=zq (show R=kF q true from by rw[ER.o,if_neg (fun h=>h.1 hr0),Nat.add_zero]);have OF:=zq (fun w=>fJ q qh ql QHL.o.1 QHL.o.2 true w);rw[<-EO.o] at OF;clear hr0
   go_wp2_with fail
   refine (OF.o _).mono ?_;rintro e w3 ⟨rfl,hb3⟩
   go_wp2_with fail
   go_ret2;exact⟨bP rfl rfl,fQ B2.o hb3⟩
  ·have h0:(0:Int)<(r:Int):=by omega
   have EO:=zq (show R=kF q true from by rw[ER.o,if_neg (fun h=>absurd h.2 (by decide)),Nat.add_zero]);have OF:=zq (fun w=>fJ q qh ql QHL.o.1 QHL.o.2 true w);rw[<-EO.o] at OF;clear hr0
   go_wp2_with fail
   refine (OF.o _).mono ?_;rintro e w3 ⟨rfl,hb3⟩
   go_wp2_with fail
   go_ret2;exact⟨bP rfl rfl,fQ B2.o hb3⟩
  ·have h0:¬ (0:Int)<(r:Int):=by omega
   have EO:=zq (show R=kF q false from by rw[ER.o,if_neg (fun h=>h.1 hr0),Nat.add_zero]);have OF:=zq (fun w=>fJ q qh ql QHL.o.1 QHL.o.2 false w);rw[<-EO.o] at OF;clear hr0
   go_wp2_with fail
   refine (OF.o _).mono ?_;rintro e w3 ⟨rfl,hb3⟩
   go_wp2_with fail
   go_ret2;exact⟨bP rfl rfl,fQ B2.o hb3⟩
  ·have h0:(0:Int)<(r:Int):=by omega
   have EO:=zq (show R=kF q false from by rw[ER.o,if_neg (fun h=>absurd h.2 (by decide)),Nat.add_zero]);have OF:=zq (fun w=>fJ q qh ql QHL.o.1 QHL.o.2 false w);rw[<-EO.o] at OF;clear hr0
   go_wp2_with fail
   refine (OF.o _).mono ?_;rintro e w3 ⟨rfl,hb3⟩
   go_wp2_with fail
   go_ret2;exact⟨bP rfl rfl,fQ B2.o hb3⟩
  ·have h0:¬ (0:Int)<(r:Int):=by omega
   have EO:=zq (show R=kF q true from by rw[ER.o,if_neg (fun h=>h.1 hr0),Nat.add_zero]);have OF:=zq (fun w=>fJ q qh ql QHL.o.1 QHL.o.2 true w);rw[<-EO.o] at OF;clear hr0
   go_wp2_with fail
   refine (OF.o _).mono ?_;rintro e w3 ⟨rfl,hb3⟩
   go_wp2_with fail
   go_ret2;exact⟨bP rfl rfl,fQ B2.o hb3⟩
  ·have h0:(0:Int)<(r:Int):=by omega
   have EO:=zq (show R=kF q true from by rw[ER.o,if_neg (fun h=>absurd h.2 (by decide)),Nat.add_zero]);have OF:=zq (fun w=>fJ q qh ql QHL.o.1 QHL.o.2 true w);rw[<-EO.o] at OF;clear hr0
   go_wp2_with fail
   refine (OF.o _).mono ?_;rintro e w3 ⟨rfl,hb3⟩
   go_wp2_with fail
   go_ret2;exact⟨bP rfl rfl,fQ B2.o hb3⟩
  ·have h0:¬ (0:Int)<(r:Int):=by omega
   have EO:=zq (show R=kF q false from by rw[ER.o,if_neg (fun h=>h.1 hr0),Nat.add_zero]);have OF:=zq (fun w=>fJ q qh ql QHL.o.1 QHL.o.2 false w);rw[<-EO.o] at OF;clear hr0
   go_wp2_with fail
   refine (OF.o _).mono ?_;rintro e w3 ⟨rfl,hb3⟩
   go_wp2_with fail
   go_ret2;exact⟨bP rfl rfl,fQ B2.o hb3⟩
  ·have h0:(0:Int)<(r:Int):=by omega
   have EO:=zq (show R=kF (q+1) false from by rw[ER.o,if_pos ⟨hr0,by decide⟩]);clear hr0;by_cases hcar:ql=18446744073709551615
   ·have OF:=zq (fun w=>fJ (q+1) (qh+1) 0 (by have:=QS.o;unfold hiN;omega) (by have:=QS.o;unfold mP;omega) false w);rw[<-EO.o] at OF;have hq1:=QS.o;have hq2:=QB.o;have hqb:(qh:Int)<=18446744073709551614:=by omega
    have hw:IntKind.u64.wrap ((ql:Int)+1)=0:=by rw[wrap_u64];omega
    clear hq1 hq2 hcar
    go_wp2_with fail
    refine (OF.o _).mono ?_;rintro e w3 ⟨rfl,hb3⟩;have b3:=hb3.size
    simp at b3
    go_wp2_with fail
    go_ret2;exact⟨bP rfl rfl,fQ B2.o hb3⟩
   have OF:=zq (fun w=>fJ (q+1) qh (ql+1) (by have:=QS.o;have:=LL.o;unfold hiN;omega) (by have:=QS.o;have:=LL.o;unfold mP;omega) false w);rw[<-EO.o] at OF;have hqb:(ql:Int)<=18446744073709551614:=by have:=LL.o;omega
   clear hcar
   go_wp2_with fail
   refine (OF.o _).mono ?_;rintro e w3 ⟨rfl,hb3⟩
   go_wp2_with fail
   go_ret2;exact⟨bP rfl rfl,fQ B2.o hb3⟩
  ·have h0:¬ (0:Int)<(r:Int):=by omega
   have EO:=zq (show R=kF q true from by rw[ER.o,if_neg (fun h=>h.1 hr0),Nat.add_zero]);have OF:=zq (fun w=>fJ q qh ql QHL.o.1 QHL.o.2 true w);rw[<-EO.o] at OF;clear hr0
   go_wp2_with fail
   refine (OF.o _).mono ?_;rintro e w3 ⟨rfl,hb3⟩
   go_wp2_with fail
   go_ret2;exact⟨bP rfl rfl,fQ B2.o hb3⟩
  have h0:(0:Int)<(r:Int):=by omega
  have EO:=zq (show R=kF (q+1) true from by rw[ER.o,if_pos ⟨hr0,by decide⟩]);clear hr0;by_cases hcar:ql=18446744073709551615
  ·have OF:=zq (fun w=>fJ (q+1) (qh+1) 0 (by have:=QS.o;unfold hiN;omega) (by have:=QS.o;unfold mP;omega) true w);rw[<-EO.o] at OF;have hq1:=QS.o;have hq2:=QB.o;have hqb:(qh:Int)<=18446744073709551614:=by omega
   have hw:IntKind.u64.wrap ((ql:Int)+1)=0:=by rw[wrap_u64];omega
   clear hq1 hq2 hcar
   go_wp2_with fail
   refine (OF.o _).mono ?_;rintro e w3 ⟨rfl,hb3⟩;have b3:=hb3.size
   simp at b3
   go_wp2_with fail
   go_ret2;exact⟨bP rfl rfl,fQ B2.o hb3⟩
  have OF:=zq (fun w=>fJ (q+1) qh (ql+1) (by have:=QS.o;have:=LL.o;unfold hiN;omega) (by have:=QS.o;have:=LL.o;unfold mP;omega) true w);rw[<-EO.o] at OF;have hqb:(ql:Int)<=18446744073709551614:=by have:=LL.o;omega
  clear hcar
  go_wp2_with fail
  refine (OF.o _).mono ?_;rintro e w3 ⟨rfl,hb3⟩
  go_wp2_with fail
  go_ret2;exact⟨bP rfl rfl,fQ B2.o hb3⟩
theorem kK (a b c mode:Int) (w:World) :
 Calls Tryz.prog 81 #[.int .i64 a,.int .i64 b,.int .i64 c,.int .i64 mode] w fun e w'=>e=.returned (.tuple #[.int .i64 (iT a b c mode).1,.int .i64 (iT a b c mode).2])/\Below w.heap.size w w':=by
 by_cases h:aO a=true/\aO b=true/\aO c=true
 ·by_cases h2:c=0\/mode<0\/3<mode
  ·exact Pv a b c mode h.1 h.2.1 h.2.2 w h2
  exact Ob a b c mode h.1 h.2.1 h.2.2 w (by omega) (by omega) (by omega)
 refine Oa a b c mode w ?_;cases h1:aO a <;> cases h2:aO b <;> cases h3:aO c <;> simp_all
end Go.Proofs.YtcepekniflaoaaaGreatDoor
