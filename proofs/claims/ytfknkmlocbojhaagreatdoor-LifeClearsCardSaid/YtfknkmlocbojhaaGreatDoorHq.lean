/- Joined: Seq, LSame. -/
import Derived.Test.YtfknkmlocbojhaaGreatDoorGl
import Derived.Test.YtfknkmlocbojhaaGreatDoorGh
set_option linter.unusedVariables false
set_option linter.unusedSimpArgs false
set_option maxRecDepth 100000
set_option maxHeartbeats 16000000
namespace Go.Proofs.YtfknkmlocbojhaaGreatDoor
open Go.RowKit Go.Bw Go.Maps Go.Shelf Go.Bw.Fall
theorem Gj (w:World) (u v:Value) (l m:List Int) (h1:RowOf w 1 dn u l) (h2:RowOf w 1 dn v m) (hl:l.length<=140737488355328) :
 Calls Tryz.prog 85 #[u,v] w fun e w'=>e=.returned (.bool (oV l m))/\Below w.heap.size w w':=by
 obtain⟨a1,c1,rfl⟩:=h1.form;obtain⟨a2,c2,rfl⟩:=h2.form;have H1:=zq h1;have H2:=zq h2;obtain⟨R,hR⟩:=Zn (oV l m);rw[<-hR];have ER:=zq hR;obtain⟨n1,hn1⟩:=Zn l.length;obtain⟨n2,hn2⟩:=Zn m.length;have LN1:=zq hn1;have LN2:=zq hn2;rw[<-hn1] at hl H1 ⊢;rw[<-hn2] at H2 ⊢;clear h1 h2 hR hn1 hn2;by_cases hne:n1=n2
 ·subst hne;have TK:=zq (show l.take 0=m.take 0/\Below w.heap.size w w from ⟨rfl,Below.refl _ _⟩)
  go_enter Tryz.func85,Tryz.ntmps85
  go_wp2_with fail
  go_loopw [13] (fun i wr=>∃ k:Nat,k<=n1/\i=.int .i64 k/\∃ W,W=wr/\Hid (l.take k=m.take k/\Below w.heap.size w W)) (fun i _=>n1 - (intOf i).toNat)
  case atStart=>exact⟨0,Nat.zero_le _,rfl,_,rfl,TK⟩
  clear TK;obtain⟨k,hk,rfl,W,rfl,TK⟩:=hrel;by_cases hlt:k<n1
  ·have hlt':(k:Int)<(n1:Int):=by omega
   have LT:=zq hlt;obtain⟨x,hx⟩:∃ x,l[k]?=some x:=⟨_,Zg (by rw[<-LN1.o];exact hlt)⟩;obtain⟨y,hy⟩:∃ y,m[k]?=some y:=⟨_,Zg (by rw[<-LN2.o];exact hlt)⟩;obtain⟨b,o,e1,_,hcx⟩:=(H1.o.below TK.o.2).at_ hx;obtain⟨b',o',e2,_,hcy⟩:=(H2.o.below TK.o.2).at_ hy;subst e1;subst e2;have cx0:=hcx 0 (.int .i64 x) rfl;have cy0:=hcy 0 (.int .i64 y) rfl
   simp only[Nat.add_zero,Nat.mul_one] at cx0 cy0
   have HX:=zq hx;have HY:=zq hy;clear hx hy hcx hcy
   go_upto_region 6 with (fail)
   have DW:=zq (show Below W.heap.size W W.drew from ((Mod.refl (fun _=>False) W).drew).aN);have BW:=zq (show Below w.heap.size w W.drew from TK.o.2.trans (DW.o.mono TK.o.2.size));refine ak.wz [] [] (.step 0 (.step 1 (.step 2 (.step 3 (.step 4 (.step 5 (.step 6 (.step 7 (.step 8 .leaf))))))))) (by kernel_rfl) (by kernel_rfl) ?_;refine ak.ay [0,1,2,3,4,5,6,7,8] (by kernel_rfl) ?_
   simp only[au,nth]
   repeat (go_big_quiet_step (fail))
   refine wpQuiet_nil ?_;refine ak.aQ ?_;go_simp;by_cases hxy:x=y
   ·subst hxy;skip;have TQ:=zq (show l.take (k+1)=m.take (k+1)/\Below w.heap.size w W.drew from ⟨jm HX.o HY.o TK.o.1,BW.o⟩);clear cx0
    go_wp2_with fail
    go_roundw
    case rel=>exact⟨k+1,by have:=LT.o;omega,by go_num,_,rfl,TQ⟩
    case measure=>have:=LT.o;simp[intOf];omega
   obtain rfl:R=false:=by rw[ER.o];exact kH HX.o HY.o hxy
   skip
   go_wp2_with fail
   go_ret;exact⟨rfl,BW.o⟩
  have hlt':¬ (k:Int)<(n1:Int):=by omega
  obtain rfl:n1=k:=by omega
  obtain rfl:R=true:=by rw[ER.o];exact kF LN1.o.symm LN2.o.symm TK.o.1
  go_wp2_with fail
  go_ret;exact⟨rfl,TK.o.2⟩
 have hne':¬ (n1:Int)=(n2:Int):=by omega
 obtain rfl:R=false:=by rw[ER.o];exact kG (by rw[<-LN1.o,<-LN2.o];exact hne)
 go_enter Tryz.func85,Tryz.ntmps85
 go_wp2_with fail
 go_ret;exact⟨rfl,Below.refl _ _⟩
theorem LY (w:World) (u v:Value) (l m:List iJ) (h1:RowOf w 2 iJ.cells u l) (h2:RowOf w 2 iJ.cells v m) (hl:l.length<=140737488355328) :
 Calls Tryz.prog 80 #[u,v] w fun e w'=>e=.returned (.bool (oV l m))/\Below w.heap.size w w':=by
 obtain⟨a1,c1,rfl⟩:=h1.form;obtain⟨a2,c2,rfl⟩:=h2.form;have H1:=zq h1;have H2:=zq h2;obtain⟨R,hR⟩:=Zn (oV l m);rw[<-hR];have ER:=zq hR;obtain⟨n1,hn1⟩:=Zn l.length;obtain⟨n2,hn2⟩:=Zn m.length;have LN1:=zq hn1;have LN2:=zq hn2;rw[<-hn1] at hl H1 ⊢;rw[<-hn2] at H2 ⊢;clear h1 h2 hR hn1 hn2;by_cases hne:n1=n2
 ·subst hne;have TK:=zq (show l.take 0=m.take 0/\Below w.heap.size w w from ⟨rfl,Below.refl _ _⟩)
  go_enter Tryz.func80,Tryz.ntmps80
  go_wp2_with fail
  go_loopw [13] (fun i wr=>∃ k:Nat,k<=n1/\i=.int .i64 k/\∃ W,W=wr/\Hid (l.take k=m.take k/\Below w.heap.size w W)) (fun i _=>n1 - (intOf i).toNat)
  case atStart=>exact⟨0,Nat.zero_le _,rfl,_,rfl,TK⟩
  clear TK;obtain⟨k,hk,rfl,W,rfl,TK⟩:=hrel;by_cases hlt:k<n1
  ·have hlt':(k:Int)<(n1:Int):=by omega
   have LT:=zq hlt;obtain⟨x,hx⟩:∃ x,l[k]?=some x:=⟨_,Zg (by rw[<-LN1.o];exact hlt)⟩;obtain⟨y,hy⟩:∃ y,m[k]?=some y:=⟨_,Zg (by rw[<-LN2.o];exact hlt)⟩;obtain⟨b,o,e1,_,hcx⟩:=(H1.o.below TK.o.2).at_ hx;obtain⟨b',o',e2,_,hcy⟩:=(H2.o.below TK.o.2).at_ hy;subst e1;subst e2;have cx0:=hcx 0 (.int .i64 x.rate) rfl;have cx1:=hcx 1 (.int .i64 x.fU) rfl;have cy0:=hcy 0 (.int .i64 y.rate) rfl;have cy1:=hcy 1 (.int .i64 y.fU) rfl
   simp only[Nat.add_zero] at cx0 cy0
   have HX:=zq hx;have HY:=zq hy;clear hx hy hcx hcy
   go_upto_region 6 with (fail)
   have DW:=zq (show Below W.heap.size W W.drew from ((Mod.refl (fun _=>False) W).drew).aN);have BW:=zq (show Below w.heap.size w W.drew from TK.o.2.trans (DW.o.mono TK.o.2.size));refine ak.wz [] [] (.step 0 (.step 1 (.step 2 (.step 3 (.step 4 (.step 5 (.step 6 (.step 7 (.step 8 .leaf))))))))) (by kernel_rfl) (by kernel_rfl) ?_;refine ak.ay [0,1,2,3,4,5,6,7,8] (by kernel_rfl) ?_
   simp only[au,nth]
   repeat (go_big_quiet_step (fail))
   refine jk rfl .neq 93 (.tmp 19) (.tmp 23) 93 rfl _ _ _ rfl rfl (fun w _=>Lr w x y _ _) ?_;refine wpQuiet_nil ?_;refine ak.aQ ?_;go_simp;by_cases hxy:x=y
   ·subst hxy;rw[dJ rfl];have TQ:=zq (show l.take (k+1)=m.take (k+1)/\Below w.heap.size w W.drew from ⟨jm HX.o HY.o TK.o.1,BW.o⟩);clear cx0
    go_wp2_with fail
    go_roundw
    case rel=>exact⟨k+1,by have:=LT.o;omega,by go_num,_,rfl,TQ⟩
    case measure=>have:=LT.o;simp[intOf];omega
   obtain rfl:R=false:=by rw[ER.o];exact kH HX.o HY.o hxy
   rw[dD hxy]
   go_wp2_with fail
   go_ret;exact⟨rfl,BW.o⟩
  have hlt':¬ (k:Int)<(n1:Int):=by omega
  obtain rfl:n1=k:=by omega
  obtain rfl:R=true:=by rw[ER.o];exact kF LN1.o.symm LN2.o.symm TK.o.1
  go_wp2_with fail
  go_ret;exact⟨rfl,TK.o.2⟩
 have hne':¬ (n1:Int)=(n2:Int):=by omega
 obtain rfl:R=false:=by rw[ER.o];exact kG (by rw[<-LN1.o,<-LN2.o];exact hne)
 go_enter Tryz.func80,Tryz.ntmps80
 go_wp2_with fail
 go_ret;exact⟨rfl,Below.refl _ _⟩
theorem IB (w:World) (u v:Value) (l m:List eU) (h1:RowOf w 4 eU.cells u l) (h2:RowOf w 4 eU.cells v m) (hl:l.length<=140737488355328) :
 Calls Tryz.prog 81 #[u,v] w fun e w'=>e=.returned (.bool (oV l m))/\Below w.heap.size w w':=by
 obtain⟨a1,c1,rfl⟩:=h1.form;obtain⟨a2,c2,rfl⟩:=h2.form;have H1:=zq h1;have H2:=zq h2;obtain⟨R,hR⟩:=Zn (oV l m);rw[<-hR];have ER:=zq hR;obtain⟨n1,hn1⟩:=Zn l.length;obtain⟨n2,hn2⟩:=Zn m.length;have LN1:=zq hn1;have LN2:=zq hn2;rw[<-hn1] at hl H1 ⊢;rw[<-hn2] at H2 ⊢;clear h1 h2 hR hn1 hn2;by_cases hne:n1=n2
 ·subst hne;have TK:=zq (show l.take 0=m.take 0/\Below w.heap.size w w from ⟨rfl,Below.refl _ _⟩)
  go_enter Tryz.func81,Tryz.ntmps81
  go_wp2_with fail
  go_loopw [13] (fun i wr=>∃ k:Nat,k<=n1/\i=.int .i64 k/\∃ W,W=wr/\Hid (l.take k=m.take k/\Below w.heap.size w W)) (fun i _=>n1 - (intOf i).toNat)
  case atStart=>exact⟨0,Nat.zero_le _,rfl,_,rfl,TK⟩
  clear TK;obtain⟨k,hk,rfl,W,rfl,TK⟩:=hrel;by_cases hlt:k<n1
  ·have hlt':(k:Int)<(n1:Int):=by omega
   have LT:=zq hlt;obtain⟨x,hx⟩:∃ x,l[k]?=some x:=⟨_,Zg (by rw[<-LN1.o];exact hlt)⟩;obtain⟨y,hy⟩:∃ y,m[k]?=some y:=⟨_,Zg (by rw[<-LN2.o];exact hlt)⟩;obtain⟨b,o,e1,_,hcx⟩:=(H1.o.below TK.o.2).at_ hx;obtain⟨b',o',e2,_,hcy⟩:=(H2.o.below TK.o.2).at_ hy;subst e1;subst e2;have cx0:=hcx 0 (.string x.name) rfl;have cx1:=hcx 1 (.int .i64 x.cur) rfl;have cx2:=hcx 2 (.int .i64 x.price) rfl;have cx3:=hcx 3 (.int .i64 x.dL) rfl;have cy0:=hcy 0 (.string y.name) rfl;have cy1:=hcy 1 (.int .i64 y.cur) rfl;have cy2:=hcy 2 (.int .i64 y.price) rfl;have cy3:=hcy 3 (.int .i64 y.dL) rfl
   simp only[Nat.add_zero] at cx0 cy0
   have HX:=zq hx;have HY:=zq hy;clear hx hy hcx hcy
   go_upto_region 6 with (fail)
   have DW:=zq (show Below W.heap.size W W.drew from ((Mod.refl (fun _=>False) W).drew).aN);have BW:=zq (show Below w.heap.size w W.drew from TK.o.2.trans (DW.o.mono TK.o.2.size));refine ak.wz [] [] (.step 0 (.step 1 (.step 2 (.step 3 (.step 4 (.step 5 (.step 6 (.step 7 (.step 8 .leaf))))))))) (by kernel_rfl) (by kernel_rfl) ?_;refine ak.ay [0,1,2,3,4,5,6,7,8] (by kernel_rfl) ?_
   simp only[au,nth]
   repeat (go_big_quiet_step (fail))
   refine jk rfl .neq 55 (.tmp 19) (.tmp 23) 55 rfl _ _ _ rfl rfl (fun w _=>Ig w x y _ _) ?_;refine wpQuiet_nil ?_;refine ak.aQ ?_;go_simp;by_cases hxy:x=y
   ·subst hxy;rw[dJ rfl];have TQ:=zq (show l.take (k+1)=m.take (k+1)/\Below w.heap.size w W.drew from ⟨jm HX.o HY.o TK.o.1,BW.o⟩);clear cx0
    go_wp2_with fail
    go_roundw
    case rel=>exact⟨k+1,by have:=LT.o;omega,by go_num,_,rfl,TQ⟩
    case measure=>have:=LT.o;simp[intOf];omega
   obtain rfl:R=false:=by rw[ER.o];exact kH HX.o HY.o hxy
   rw[dD hxy]
   go_wp2_with fail
   go_ret;exact⟨rfl,BW.o⟩
  have hlt':¬ (k:Int)<(n1:Int):=by omega
  obtain rfl:n1=k:=by omega
  obtain rfl:R=true:=by rw[ER.o];exact kF LN1.o.symm LN2.o.symm TK.o.1
  go_wp2_with fail
  go_ret;exact⟨rfl,TK.o.2⟩
 have hne':¬ (n1:Int)=(n2:Int):=by omega
 obtain rfl:R=false:=by rw[ER.o];exact kG (by rw[<-LN1.o,<-LN2.o];exact hne)
 go_enter Tryz.func81,Tryz.ntmps81
 go_wp2_with fail
 go_ret;exact⟨rfl,Below.refl _ _⟩
theorem Iz (w:World) (u v:Value) (l m:List Ins) (h1:RowOf w 7 Ins.cells u l) (h2:RowOf w 7 Ins.cells v m) (hl:l.length<=140737488355328) :
 Calls Tryz.prog 82 #[u,v] w fun e w'=>e=.returned (.bool (oV l m))/\Below w.heap.size w w':=by
 obtain⟨a1,c1,rfl⟩:=h1.form;obtain⟨a2,c2,rfl⟩:=h2.form;have H1:=zq h1;have H2:=zq h2;obtain⟨R,hR⟩:=Zn (oV l m);rw[<-hR];have ER:=zq hR;obtain⟨n1,hn1⟩:=Zn l.length;obtain⟨n2,hn2⟩:=Zn m.length;have LN1:=zq hn1;have LN2:=zq hn2;rw[<-hn1] at hl H1 ⊢;rw[<-hn2] at H2 ⊢;clear h1 h2 hR hn1 hn2;by_cases hne:n1=n2
 ·subst hne;have TK:=zq (show l.take 0=m.take 0/\Below w.heap.size w w from ⟨rfl,Below.refl _ _⟩)
  go_enter Tryz.func82,Tryz.ntmps82
  go_wp2_with fail
  go_loopw [13] (fun i wr=>∃ k:Nat,k<=n1/\i=.int .i64 k/\∃ W,W=wr/\Hid (l.take k=m.take k/\Below w.heap.size w W)) (fun i _=>n1 - (intOf i).toNat)
  case atStart=>exact⟨0,Nat.zero_le _,rfl,_,rfl,TK⟩
  clear TK;obtain⟨k,hk,rfl,W,rfl,TK⟩:=hrel;by_cases hlt:k<n1
  ·have hlt':(k:Int)<(n1:Int):=by omega
   have LT:=zq hlt;obtain⟨x,hx⟩:∃ x,l[k]?=some x:=⟨_,Zg (by rw[<-LN1.o];exact hlt)⟩;obtain⟨y,hy⟩:∃ y,m[k]?=some y:=⟨_,Zg (by rw[<-LN2.o];exact hlt)⟩;obtain⟨b,o,e1,_,hcx⟩:=(H1.o.below TK.o.2).at_ hx;obtain⟨b',o',e2,_,hcy⟩:=(H2.o.below TK.o.2).at_ hy;subst e1;subst e2;have cx0:=hcx 0 (.int .i64 x.kind) rfl;have cx1:=hcx 1 (.int .i64 x.under) rfl;have cx2:=hcx 2 (.int .i64 x.mult) rfl;have cx3:=hcx 3 (.int .i64 x.strike) rfl;have cx4:=hcx 4 (.int .i64 x.aU) rfl;have cx5:=hcx 5 (.bool x.call) rfl;have cx6:=hcx 6 (.int .i64 x.mark) rfl;have cy0:=hcy 0 (.int .i64 y.kind) rfl;have cy1:=hcy 1 (.int .i64 y.under) rfl;have cy2:=hcy 2 (.int .i64 y.mult) rfl;have cy3:=hcy 3 (.int .i64 y.strike) rfl;have cy4:=hcy 4 (.int .i64 y.aU) rfl;have cy5:=hcy 5 (.bool y.call) rfl;have cy6:=hcy 6 (.int .i64 y.mark) rfl
   simp only[Nat.add_zero] at cx0 cy0
   have HX:=zq hx;have HY:=zq hy;clear hx hy hcx hcy
   go_upto_region 6 with (fail)
   have DW:=zq (show Below W.heap.size W W.drew from ((Mod.refl (fun _=>False) W).drew).aN);have BW:=zq (show Below w.heap.size w W.drew from TK.o.2.trans (DW.o.mono TK.o.2.size));refine ak.wz [] [] (.step 0 (.step 1 (.step 2 (.step 3 (.step 4 (.step 5 (.step 6 (.step 7 (.step 8 .leaf))))))))) (by kernel_rfl) (by kernel_rfl) ?_;refine ak.ay [0,1,2,3,4,5,6,7,8] (by kernel_rfl) ?_
   simp only[au,nth]
   repeat (go_big_quiet_step (fail))
   refine jk rfl .neq 51 (.tmp 19) (.tmp 23) 51 rfl _ _ _ rfl rfl (fun w _=>Ic w x y _ _) ?_;refine wpQuiet_nil ?_;refine ak.aQ ?_;go_simp;by_cases hxy:x=y
   ·subst hxy;rw[dJ rfl];have TQ:=zq (show l.take (k+1)=m.take (k+1)/\Below w.heap.size w W.drew from ⟨jm HX.o HY.o TK.o.1,BW.o⟩);clear cx0
    go_wp2_with fail
    go_roundw
    case rel=>exact⟨k+1,by have:=LT.o;omega,by go_num,_,rfl,TQ⟩
    case measure=>have:=LT.o;simp[intOf];omega
   obtain rfl:R=false:=by rw[ER.o];exact kH HX.o HY.o hxy
   rw[dD hxy]
   go_wp2_with fail
   go_ret;exact⟨rfl,BW.o⟩
  have hlt':¬ (k:Int)<(n1:Int):=by omega
  obtain rfl:n1=k:=by omega
  obtain rfl:R=true:=by rw[ER.o];exact kF LN1.o.symm LN2.o.symm TK.o.1
  go_wp2_with fail
  go_ret;exact⟨rfl,TK.o.2⟩
 have hne':¬ (n1:Int)=(n2:Int):=by omega
 obtain rfl:R=false:=by rw[ER.o];exact kG (by rw[<-LN1.o,<-LN2.o];exact hne)
 go_enter Tryz.func82,Tryz.ntmps82
 go_wp2_with fail
 go_ret;exact⟨rfl,Below.refl _ _⟩
theorem Mc (w:World) (u v:Value) (l m:List Pos) (h1:RowOf w 3 Pos.cells u l) (h2:RowOf w 3 Pos.cells v m) (hl:l.length<=140737488355328) :
 Calls Tryz.prog 83 #[u,v] w fun e w'=>e=.returned (.bool (oV l m))/\Below w.heap.size w w':=by
 obtain⟨a1,c1,rfl⟩:=h1.form;obtain⟨a2,c2,rfl⟩:=h2.form;have H1:=zq h1;have H2:=zq h2;obtain⟨R,hR⟩:=Zn (oV l m);rw[<-hR];have ER:=zq hR;obtain⟨n1,hn1⟩:=Zn l.length;obtain⟨n2,hn2⟩:=Zn m.length;have LN1:=zq hn1;have LN2:=zq hn2;rw[<-hn1] at hl H1 ⊢;rw[<-hn2] at H2 ⊢;clear h1 h2 hR hn1 hn2;by_cases hne:n1=n2
 ·subst hne;have TK:=zq (show l.take 0=m.take 0/\Below w.heap.size w w from ⟨rfl,Below.refl _ _⟩)
  go_enter Tryz.func83,Tryz.ntmps83
  go_wp2_with fail
  go_loopw [13] (fun i wr=>∃ k:Nat,k<=n1/\i=.int .i64 k/\∃ W,W=wr/\Hid (l.take k=m.take k/\Below w.heap.size w W)) (fun i _=>n1 - (intOf i).toNat)
  case atStart=>exact⟨0,Nat.zero_le _,rfl,_,rfl,TK⟩
  clear TK;obtain⟨k,hk,rfl,W,rfl,TK⟩:=hrel;by_cases hlt:k<n1
  ·have hlt':(k:Int)<(n1:Int):=by omega
   have LT:=zq hlt;obtain⟨x,hx⟩:∃ x,l[k]?=some x:=⟨_,Zg (by rw[<-LN1.o];exact hlt)⟩;obtain⟨y,hy⟩:∃ y,m[k]?=some y:=⟨_,Zg (by rw[<-LN2.o];exact hlt)⟩;obtain⟨b,o,e1,_,hcx⟩:=(H1.o.below TK.o.2).at_ hx;obtain⟨b',o',e2,_,hcy⟩:=(H2.o.below TK.o.2).at_ hy;subst e1;subst e2;have cx0:=hcx 0 (.int .i64 x.aG) rfl;have cx1:=hcx 1 (.int .i64 x.instr) rfl;have cx2:=hcx 2 (.int .i64 x.qty) rfl;have cy0:=hcy 0 (.int .i64 y.aG) rfl;have cy1:=hcy 1 (.int .i64 y.instr) rfl;have cy2:=hcy 2 (.int .i64 y.qty) rfl
   simp only[Nat.add_zero] at cx0 cy0
   have HX:=zq hx;have HY:=zq hy;clear hx hy hcx hcy
   go_upto_region 6 with (fail)
   have DW:=zq (show Below W.heap.size W W.drew from ((Mod.refl (fun _=>False) W).drew).aN);have BW:=zq (show Below w.heap.size w W.drew from TK.o.2.trans (DW.o.mono TK.o.2.size));refine ak.wz [] [] (.step 0 (.step 1 (.step 2 (.step 3 (.step 4 (.step 5 (.step 6 (.step 7 (.step 8 .leaf))))))))) (by kernel_rfl) (by kernel_rfl) ?_;refine ak.ay [0,1,2,3,4,5,6,7,8] (by kernel_rfl) ?_
   simp only[au,nth]
   repeat (go_big_quiet_step (fail))
   refine jk rfl .neq 60 (.tmp 19) (.tmp 23) 60 rfl _ _ _ rfl rfl (fun w _=>Lu w x y _ _) ?_;refine wpQuiet_nil ?_;refine ak.aQ ?_;go_simp;by_cases hxy:x=y
   ·subst hxy;rw[dJ rfl];have TQ:=zq (show l.take (k+1)=m.take (k+1)/\Below w.heap.size w W.drew from ⟨jm HX.o HY.o TK.o.1,BW.o⟩);clear cx0
    go_wp2_with fail
    go_roundw
    case rel=>exact⟨k+1,by have:=LT.o;omega,by go_num,_,rfl,TQ⟩
    case measure=>have:=LT.o;simp[intOf];omega
   obtain rfl:R=false:=by rw[ER.o];exact kH HX.o HY.o hxy
   rw[dD hxy]
   go_wp2_with fail
   go_ret;exact⟨rfl,BW.o⟩
  have hlt':¬ (k:Int)<(n1:Int):=by omega
  obtain rfl:n1=k:=by omega
  obtain rfl:R=true:=by rw[ER.o];exact kF LN1.o.symm LN2.o.symm TK.o.1
  go_wp2_with fail
  go_ret;exact⟨rfl,TK.o.2⟩
 have hne':¬ (n1:Int)=(n2:Int):=by omega
 obtain rfl:R=false:=by rw[ER.o];exact kG (by rw[<-LN1.o,<-LN2.o];exact hne)
 go_enter Tryz.func83,Tryz.ntmps83
 go_wp2_with fail
 go_ret;exact⟨rfl,Below.refl _ _⟩
theorem IA (w:World) (u v:Value) (l m:List Ord) (h1:RowOf w 5 Ord.cells u l) (h2:RowOf w 5 Ord.cells v m) (hl:l.length<=140737488355328) :
 Calls Tryz.prog 84 #[u,v] w fun e w'=>e=.returned (.bool (oV l m))/\Below w.heap.size w w':=by
 obtain⟨a1,c1,rfl⟩:=h1.form;obtain⟨a2,c2,rfl⟩:=h2.form;have H1:=zq h1;have H2:=zq h2;obtain⟨R,hR⟩:=Zn (oV l m);rw[<-hR];have ER:=zq hR;obtain⟨n1,hn1⟩:=Zn l.length;obtain⟨n2,hn2⟩:=Zn m.length;have LN1:=zq hn1;have LN2:=zq hn2;rw[<-hn1] at hl H1 ⊢;rw[<-hn2] at H2 ⊢;clear h1 h2 hR hn1 hn2;by_cases hne:n1=n2
 ·subst hne;have TK:=zq (show l.take 0=m.take 0/\Below w.heap.size w w from ⟨rfl,Below.refl _ _⟩)
  go_enter Tryz.func84,Tryz.ntmps84
  go_wp2_with fail
  go_loopw [13] (fun i wr=>∃ k:Nat,k<=n1/\i=.int .i64 k/\∃ W,W=wr/\Hid (l.take k=m.take k/\Below w.heap.size w W)) (fun i _=>n1 - (intOf i).toNat)
  case atStart=>exact⟨0,Nat.zero_le _,rfl,_,rfl,TK⟩
  clear TK;obtain⟨k,hk,rfl,W,rfl,TK⟩:=hrel;by_cases hlt:k<n1
  ·have hlt':(k:Int)<(n1:Int):=by omega
   have LT:=zq hlt;obtain⟨x,hx⟩:∃ x,l[k]?=some x:=⟨_,Zg (by rw[<-LN1.o];exact hlt)⟩;obtain⟨y,hy⟩:∃ y,m[k]?=some y:=⟨_,Zg (by rw[<-LN2.o];exact hlt)⟩;obtain⟨b,o,e1,_,hcx⟩:=(H1.o.below TK.o.2).at_ hx;obtain⟨b',o',e2,_,hcy⟩:=(H2.o.below TK.o.2).at_ hy;subst e1;subst e2;have cx0:=hcx 0 (.int .i64 x.aG) rfl;have cx1:=hcx 1 (.int .i64 x.id) rfl;have cx2:=hcx 2 (.int .i64 x.instr) rfl;have cx3:=hcx 3 (.int .i64 x.qty) rfl;have cx4:=hcx 4 (.int .i64 x.price) rfl;have cy0:=hcy 0 (.int .i64 y.aG) rfl;have cy1:=hcy 1 (.int .i64 y.id) rfl;have cy2:=hcy 2 (.int .i64 y.instr) rfl;have cy3:=hcy 3 (.int .i64 y.qty) rfl;have cy4:=hcy 4 (.int .i64 y.price) rfl
   simp only[Nat.add_zero] at cx0 cy0
   have HX:=zq hx;have HY:=zq hy;clear hx hy hcx hcy
   go_upto_region 6 with (fail)
   have DW:=zq (show Below W.heap.size W W.drew from ((Mod.refl (fun _=>False) W).drew).aN);have BW:=zq (show Below w.heap.size w W.drew from TK.o.2.trans (DW.o.mono TK.o.2.size));refine ak.wz [] [] (.step 0 (.step 1 (.step 2 (.step 3 (.step 4 (.step 5 (.step 6 (.step 7 (.step 8 .leaf))))))))) (by kernel_rfl) (by kernel_rfl) ?_;refine ak.ay [0,1,2,3,4,5,6,7,8] (by kernel_rfl) ?_
   simp only[au,nth]
   repeat (go_big_quiet_step (fail))
   refine jk rfl .neq 82 (.tmp 19) (.tmp 23) 82 rfl _ _ _ rfl rfl (fun w _=>Ie w x y _ _) ?_;refine wpQuiet_nil ?_;refine ak.aQ ?_;go_simp;by_cases hxy:x=y
   ·subst hxy;rw[dJ rfl];have TQ:=zq (show l.take (k+1)=m.take (k+1)/\Below w.heap.size w W.drew from ⟨jm HX.o HY.o TK.o.1,BW.o⟩);clear cx0
    go_wp2_with fail
    go_roundw
    case rel=>exact⟨k+1,by have:=LT.o;omega,by go_num,_,rfl,TQ⟩
    case measure=>have:=LT.o;simp[intOf];omega
   obtain rfl:R=false:=by rw[ER.o];exact kH HX.o HY.o hxy
   rw[dD hxy]
   go_wp2_with fail
   go_ret;exact⟨rfl,BW.o⟩
  have hlt':¬ (k:Int)<(n1:Int):=by omega
  obtain rfl:n1=k:=by omega
  obtain rfl:R=true:=by rw[ER.o];exact kF LN1.o.symm LN2.o.symm TK.o.1
  go_wp2_with fail
  go_ret;exact⟨rfl,TK.o.2⟩
 have hne':¬ (n1:Int)=(n2:Int):=by omega
 obtain rfl:R=false:=by rw[ER.o];exact kG (by rw[<-LN1.o,<-LN2.o];exact hne)
 go_enter Tryz.func84,Tryz.ntmps84
 go_wp2_with fail
 go_ret;exact⟨rfl,Below.refl _ _⟩
theorem L9 (w:World) (u v:Value) (l m:List Pos) (h1:RowOf w 3 Pos.cells u l) (h2:RowOf w 3 Pos.cells v m) (hl:l.length<=140737488355328) :
 Calls Tryz.prog 86 #[u,v] w fun e w'=>e=.returned (.bool (oV l m))/\Below w.heap.size w w':=by
 obtain⟨a1,c1,rfl⟩:=h1.form;obtain⟨a2,c2,rfl⟩:=h2.form;have H1:=zq h1;have H2:=zq h2;obtain⟨R,hR⟩:=Zn (oV l m);rw[<-hR];have ER:=zq hR;obtain⟨n1,hn1⟩:=Zn l.length;obtain⟨n2,hn2⟩:=Zn m.length;have LN1:=zq hn1;have LN2:=zq hn2;rw[<-hn1] at hl H1 ⊢;rw[<-hn2] at H2 ⊢;clear h1 h2 hR hn1 hn2;by_cases hne:n1=n2
 ·subst hne;have TK:=zq (show l.take 0=m.take 0/\Below w.heap.size w w from ⟨rfl,Below.refl _ _⟩)
  go_enter Tryz.func86,Tryz.ntmps86
  go_wp2_with fail
  go_loopw [13] (fun i wr=>∃ k:Nat,k<=n1/\i=.int .i64 k/\∃ W,W=wr/\Hid (l.take k=m.take k/\Below w.heap.size w W)) (fun i _=>n1 - (intOf i).toNat)
  case atStart=>exact⟨0,Nat.zero_le _,rfl,_,rfl,TK⟩
  clear TK;obtain⟨k,hk,rfl,W,rfl,TK⟩:=hrel;by_cases hlt:k<n1
  ·have hlt':(k:Int)<(n1:Int):=by omega
   have LT:=zq hlt;obtain⟨x,hx⟩:∃ x,l[k]?=some x:=⟨_,Zg (by rw[<-LN1.o];exact hlt)⟩;obtain⟨y,hy⟩:∃ y,m[k]?=some y:=⟨_,Zg (by rw[<-LN2.o];exact hlt)⟩;obtain⟨b,o,e1,_,hcx⟩:=(H1.o.below TK.o.2).at_ hx;obtain⟨b',o',e2,_,hcy⟩:=(H2.o.below TK.o.2).at_ hy;subst e1;subst e2;have cx0:=hcx 0 (.int .i64 x.aG) rfl;have cx1:=hcx 1 (.int .i64 x.instr) rfl;have cx2:=hcx 2 (.int .i64 x.qty) rfl;have cy0:=hcy 0 (.int .i64 y.aG) rfl;have cy1:=hcy 1 (.int .i64 y.instr) rfl;have cy2:=hcy 2 (.int .i64 y.qty) rfl
   simp only[Nat.add_zero] at cx0 cy0
   have HX:=zq hx;have HY:=zq hy;clear hx hy hcx hcy
   go_upto_region 6 with (fail)
   have DW:=zq (show Below W.heap.size W W.drew from ((Mod.refl (fun _=>False) W).drew).aN);have BW:=zq (show Below w.heap.size w W.drew from TK.o.2.trans (DW.o.mono TK.o.2.size));refine ak.wz [] [] (.step 0 (.step 1 (.step 2 (.step 3 (.step 4 (.step 5 (.step 6 (.step 7 (.step 8 .leaf))))))))) (by kernel_rfl) (by kernel_rfl) ?_;refine ak.ay [0,1,2,3,4,5,6,7,8] (by kernel_rfl) ?_
   simp only[au,nth]
   repeat (go_big_quiet_step (fail))
   refine jk rfl .neq 61 (.tmp 19) (.tmp 23) 61 rfl _ _ _ rfl rfl (fun w _=>Ls w x y _ _) ?_;refine wpQuiet_nil ?_;refine ak.aQ ?_;go_simp;by_cases hxy:x=y
   ·subst hxy;rw[dJ rfl];have TQ:=zq (show l.take (k+1)=m.take (k+1)/\Below w.heap.size w W.drew from ⟨jm HX.o HY.o TK.o.1,BW.o⟩);clear cx0
    go_wp2_with fail
    go_roundw
    case rel=>exact⟨k+1,by have:=LT.o;omega,by go_num,_,rfl,TQ⟩
    case measure=>have:=LT.o;simp[intOf];omega
   obtain rfl:R=false:=by rw[ER.o];exact kH HX.o HY.o hxy
   rw[dD hxy]
   go_wp2_with fail
   go_ret;exact⟨rfl,BW.o⟩
  have hlt':¬ (k:Int)<(n1:Int):=by omega
  obtain rfl:n1=k:=by omega
  obtain rfl:R=true:=by rw[ER.o];exact kF LN1.o.symm LN2.o.symm TK.o.1
  go_wp2_with fail
  go_ret;exact⟨rfl,TK.o.2⟩
 have hne':¬ (n1:Int)=(n2:Int):=by omega
 obtain rfl:R=false:=by rw[ER.o];exact kG (by rw[<-LN1.o,<-LN2.o];exact hne)
 go_enter Tryz.func86,Tryz.ntmps86
 go_wp2_with fail
 go_ret;exact⟨rfl,Below.refl _ _⟩
theorem Iy (w:World) (x y:Acc×Value) (hx:RowOf w 1 dn x.2 x.1.aV) (hy:RowOf w 1 dn y.2 y.1.aV) (hl:x.1.aV.length<=140737488355328) :
 Calls Tryz.prog 88 #[.agg #[.int .i64 x.1.parent,x.2,.bool x.1.flag,.int .i64 x.1.last],.agg #[.int .i64 y.1.parent,y.2,.bool y.1.flag,.int .i64 y.1.last]] w fun e w'=>e=.returned (.bool (oV x.1 y.1))/\Below w.heap.size w w':=by
 obtain⟨a1,c1,e1⟩:=hx.form;obtain⟨a2,c2,e2⟩:=hy.form;have SQ:=zq (fun W (hb:Below w.heap.size w W)=>Gj W _ _ x.1.aV y.1.aV (hx.below hb) (hy.below hb) hl);rw[e1,e2] at SQ;rw[e1,e2];obtain⟨n1,hn1⟩:=Zn x.1.aV.length;obtain⟨n2,hn2⟩:=Zn y.1.aV.length;rw[<-hn1,<-hn2] at SQ ⊢;clear hx hy e1 e2 hn1 hn2 hl;obtain⟨R,hR⟩:=Zn (oV x.1 y.1);rw[<-hR];have ER:=zq hR;clear hR;obtain⟨⟨p,cs,f,t⟩,xv⟩:=x;obtain⟨⟨p',cs',f',t'⟩,yv⟩:=y
 simp only at SQ ER ⊢
 have B0:=zq (show Below w.heap.size w ((w.alloc (.cells #[.int .i64 p,.slice a1 n1 c1,.bool f,.int .i64 t] 48)).alloc (.cells #[.int .i64 p',.slice a2 n2 c2,.bool f',.int .i64 t'] 48)) from (Zb).alloc (by simp) _);by_cases h0:p=p';rotate_left
 ·obtain rfl:R=false:=by rw[ER.o];exact dD (fun e=>h0 (congrArg Go.Bw.Acc.parent e))
  have q:(p==p')=false:=beq_false_of_ne h0
  go_enter Tryz.func88,Tryz.ntmps88
  go_wp2_with fail
  go_ret;exact⟨rfl,B0.o⟩
 subst h0;by_cases h1:f=f';rotate_left
 ·obtain rfl:R=false:=by rw[ER.o];exact dD (fun e=>h1 (congrArg Go.Bw.Acc.flag e))
  have q:(f==f')=false:=beq_false_of_ne h1
  go_enter Tryz.func88,Tryz.ntmps88
  go_wp2_with fail
  go_ret;exact⟨rfl,B0.o⟩
 subst h1;by_cases h2:t=t';rotate_left
 ·obtain rfl:R=false:=by rw[ER.o];exact dD (fun e=>h2 (congrArg Go.Bw.Acc.last e))
  have q:(t==t')=false:=beq_false_of_ne h2
  go_enter Tryz.func88,Tryz.ntmps88
  go_wp2_with fail
  go_ret;exact⟨rfl,B0.o⟩
 subst h2;have CL:=zq (SQ.o _ B0.o)
 go_enter Tryz.func88,Tryz.ntmps88
 go_wp2_with fail
 refine CL.o.mono ?_;rintro e w2 ⟨rfl,hb⟩;have B2:=zq (B0.o.trans (hb.mono B0.o.size));clear hb;by_cases h3:cs=cs'
 ·rw[dJ h3];obtain rfl:R=true:=by rw[ER.o];exact dJ (by rw[h3])
  go_wp2_with fail
  go_ret;exact⟨rfl,B2.o⟩
 rw[dD h3];obtain rfl:R=false:=by rw[ER.o];exact dD (fun e=>h3 (congrArg Go.Bw.Acc.aV e))
 go_wp2_with fail
 go_ret;exact⟨rfl,B2.o⟩
theorem Js (w:World) (u v:Value) (l m:List (Acc×Value)) (h1:RowOf w 4 Acc.cells u l) (h2:RowOf w 4 Acc.cells v m) (hc1:∀ p∈l,RowOf w 1 dn p.2 p.1.aV) (hc2:∀ p∈m,RowOf w 1 dn p.2 p.1.aV) (hl:l.length<=140737488355328) (hcl:∀ p∈l,p.1.aV.length<=140737488355328) :
 Calls Tryz.prog 87 #[u,v,.func (.func 88) #[] #[]] w fun e w'=>e=.returned (.bool (oV (l.map (·.1)) (m.map (·.1))))/\Below w.heap.size w w':=by
 obtain⟨a1,c1,rfl⟩:=h1.form;obtain⟨a2,c2,rfl⟩:=h2.form;have H1:=zq h1;have H2:=zq h2;have S1:=zq (fun W (hb:Below w.heap.size w W) (x y:Acc×Value) (hx:x∈l) (hy:y∈m)=>Iy W x y ((hc1 x hx).below hb) ((hc2 y hy).below hb) (hcl x hx));have FX:=zq (show (∀ p∈l,∃ a c,p.2=.slice a p.1.aV.length c)/\∀ p∈m,∃ a c,p.2=.slice a p.1.aV.length c from ⟨fun p hp=>(hc1 p hp).form,fun p hp=>(hc2 p hp).form⟩);obtain⟨R,hR⟩:=Zn (oV (l.map (·.1)) (m.map (·.1)));rw[<-hR];have ER:=zq hR;obtain⟨n1,hn1⟩:=Zn l.length;obtain⟨n2,hn2⟩:=Zn m.length;have LN1:=zq hn1;have LN2:=zq hn2;rw[<-hn1] at hl H1 ⊢;rw[<-hn2] at H2 ⊢;clear h1 h2 hR hn1 hn2 hc1 hc2 hcl;by_cases hne:n1=n2
 ·subst hne;have TK:=zq (show (l.map (·.1)).take 0=(m.map (·.1)).take 0/\Below w.heap.size w w from ⟨rfl,Below.refl _ _⟩)
  go_enter Tryz.func87,Tryz.ntmps87
  go_wp2_with fail
  go_loopw [17] (fun i wr=>∃ k:Nat,k<=n1/\i=.int .i64 k/\∃ W,W=wr/\Hid ((l.map (·.1)).take k=(m.map (·.1)).take k/\Below w.heap.size w W)) (fun i _=>n1 - (intOf i).toNat)
  case atStart=>exact⟨0,Nat.zero_le _,rfl,_,rfl,TK⟩
  clear TK;obtain⟨k,hk,rfl,W,rfl,TK⟩:=hrel;by_cases hlt:k<n1
  ·have hlt':(k:Int)<(n1:Int):=by omega
   have LT:=zq hlt;obtain⟨x,hx⟩:∃ x,l[k]?=some x:=⟨_,Zg (by rw[<-LN1.o];exact hlt)⟩;obtain⟨y,hy⟩:∃ y,m[k]?=some y:=⟨_,Zg (by rw[<-LN2.o];exact hlt)⟩;obtain⟨b,o,e1,_,hcx⟩:=(H1.o.below TK.o.2).at_ hx;obtain⟨b',o',e2,_,hcy⟩:=(H2.o.below TK.o.2).at_ hy;subst e1;subst e2;have HX:=zq (show (l.map (·.1))[k]?=some x.1 from by rw[List.getElem?_map,hx];rfl);have HY:=zq (show (m.map (·.1))[k]?=some y.1 from by rw[List.getElem?_map,hy];rfl);have CX:=zq (fun W hb=>S1.o W hb x y (List.mem_of_getElem? hx) (List.mem_of_getElem? hy));obtain⟨xa,xc,ex⟩:=FX.o.1 x (List.mem_of_getElem? hx);obtain⟨ya,yc,ey⟩:=FX.o.2 y (List.mem_of_getElem? hy);obtain⟨xn,hxn⟩:=Zn x.1.aV.length;obtain⟨yn,hyn⟩:=Zn y.1.aV.length;rw[<-hxn] at ex;rw[<-hyn] at ey;rw[ex,ey] at CX;have cx0:=hcx 0 (.int .i64 x.1.parent) rfl;have cx1:=hcx 1 (.slice xa xn xc) (by rw[<-ex];rfl);have cx2:=hcx 2 (.bool x.1.flag) rfl;have cx3:=hcx 3 (.int .i64 x.1.last) rfl;have cy0:=hcy 0 (.int .i64 y.1.parent) rfl;have cy1:=hcy 1 (.slice ya yn yc) (by rw[<-ey];rfl);have cy2:=hcy 2 (.bool y.1.flag) rfl;have cy3:=hcy 3 (.int .i64 y.1.last) rfl
   simp only[Nat.add_zero] at cx0 cy0
   clear hx hy hcx hcy ex ey hxn hyn;have BB:=zq (show Below w.heap.size w ((W.alloc (.cells #[.int .i64 x.1.parent,.slice xa xn xc,.bool x.1.flag,.int .i64 x.1.last] 48)).alloc (.cells #[.int .i64 y.1.parent,.slice ya yn yc,.bool y.1.flag,.int .i64 y.1.last] 48)) from (TK.o.2.alloc TK.o.2.size _).alloc (by have:=TK.o.2.size;simp;omega) _)
   go_wp2_with fail
   refine (CX.o _ BB.o).mono ?_;rintro e w2 ⟨rfl,hb⟩;have B2:=zq (BB.o.trans (hb.mono BB.o.size));clear hb;by_cases hxy:x.1=y.1
   ·rw[dJ hxy];have TQ:=zq (show (l.map (·.1)).take (k+1)=(m.map (·.1)).take (k+1)/\Below w.heap.size w w2 from ⟨jm HX.o (by rw[hxy];exact HY.o) TK.o.1,B2.o⟩);clear hxy cx0 cx1 cx2 cx3 cy0 cy1 cy2 cy3
    go_wp2_with fail
    go_roundw
    case rel=>exact⟨k+1,by have:=LT.o;omega,by go_num,_,rfl,TQ⟩
    case measure=>have:=LT.o;simp[intOf];omega
   rw[dD hxy];obtain rfl:R=false:=by rw[ER.o];exact kH HX.o HY.o hxy
   clear hxy cx0 cx1 cx2 cx3 cy0 cy1 cy2 cy3
   go_wp2_with fail
   go_ret;exact⟨rfl,B2.o⟩
  have hlt':¬ (k:Int)<(n1:Int):=by omega
  obtain rfl:n1=k:=by omega
  obtain rfl:R=true:=by rw[ER.o];exact kF (by rw[List.length_map];exact LN1.o.symm) (by rw[List.length_map];exact LN2.o.symm) TK.o.1
  go_wp2_with fail
  go_ret;exact⟨rfl,TK.o.2⟩
 have hne':¬ (n1:Int)=(n2:Int):=by omega
 obtain rfl:R=false:=by rw[ER.o];exact kG (by rw[List.length_map,List.length_map,<-LN1.o,<-LN2.o];exact hne)
 go_enter Tryz.func87,Tryz.ntmps87
 go_wp2_with fail
 go_ret;exact⟨rfl,Below.refl _ _⟩
theorem xM {w:World} {V:aC} {L:aH} (h:bJ w V L):L.ai=V.ac.map (·.1):=h.same
theorem xR (w:World) (V U:aC) (A B:aH) (h:bJ w V A) (h':bJ w U B) (hs:A.Short) (hcs:∀ a∈A.ai,a.aV.length<=140737488355328) :
 Calls Tryz.prog 28 #[V.val A,U.val B] w fun e w'=>e=.returned (.bool (oV A B))/\Below w.heap.size w w':=by
 have S1:=zq (fun W (hW:Below w.heap.size w W)=>LY W _ _ A.aO B.aO (h.below hW).aO (h'.below hW).aO hs.b1);have S2:=zq (fun W (hW:Below w.heap.size w W)=>IB W _ _ A.ah B.ah (h.below hW).ah (h'.below hW).ah hs.b2);have S3:=zq (fun W (hW:Below w.heap.size w W)=>Iz W _ _ A.af B.af (h.below hW).af (h'.below hW).af hs.b3);have S5:=zq (fun W (hW:Below w.heap.size w W)=>Mc W _ _ A.aB B.aB (h.below hW).aB (h'.below hW).aB hs.b5);have S6:=zq (fun W (hW:Below w.heap.size w W)=>IA W _ _ A.orders B.orders (h.below hW).orders (h'.below hW).orders hs.b6);have S7:=zq (fun W (hW:Below w.heap.size w W)=>Gj W _ _ A.aF B.aF (h.below hW).aF (h'.below hW).aF hs.b7);have S8:=zq (fun W (hW:Below w.heap.size w W)=>L9 W _ _ A.aK B.aK (h.below hW).aK (h'.below hW).aK hs.b8);have S4:=zq (fun W (hW:Below w.heap.size w W)=>Js W _ _ V.ac U.ac (h.below hW).ai (h'.below hW).ai (h.below hW).aV (h'.below hW).aV (by have:=hs.b4;rwa [h.same,List.length_map] at this) (fun p hp=>hcs p.1 (by rw[h.same];exact List.mem_map_of_mem hp)));rw[<-xM h,<-xM h'] at S4;obtain⟨R,hR⟩:=Zn (oV A B);rw[<-hR];have ER:=zq hR;clear hR;obtain⟨a1,c1,a2,c2,a3,c3,a4,c4,a5,c5,a6,c6,a7,c7,a8,c8,f1,f2,f3,f4,f5,f6,f7,f8⟩:=bJ.opened h;obtain⟨b1,e1,b2,e2,b3,e3,b4,e4,b5,e5,b6,e6,b7,e7,b8,e8,g1,g2,g3,g4,g5,g6,g7,g8⟩:=bJ.opened h';unfold aC.val aC.cells;rw[f1,g1] at S1;rw[f1,g1];rw[f2,g2] at S2;rw[f2,g2];rw[f3,g3] at S3;rw[f3,g3];rw[f4,g4] at S4;rw[f4,g4];rw[f5,g5] at S5;rw[f5,g5];rw[f6,g6] at S6;rw[f6,g6];rw[f7,g7] at S7;rw[f7,g7];rw[f8,g8] at S8;rw[f8,g8];clear h h' hs hcs f1 g1 f2 g2 f3 g3 f4 g4 f5 g5 f6 g6 f7 g7 f8 g8;obtain⟨n1,hn1⟩:=Zn A.aO.length;obtain⟨m1,hm1⟩:=Zn B.aO.length;rw[<-hn1,<-hm1] at S1;rw[<-hn1,<-hm1];clear hn1 hm1;obtain⟨n2,hn2⟩:=Zn A.ah.length;obtain⟨m2,hm2⟩:=Zn B.ah.length;rw[<-hn2,<-hm2] at S2;rw[<-hn2,<-hm2];clear hn2 hm2;obtain⟨n3,hn3⟩:=Zn A.af.length;obtain⟨m3,hm3⟩:=Zn B.af.length;rw[<-hn3,<-hm3] at S3;rw[<-hn3,<-hm3];clear hn3 hm3;obtain⟨n4,hn4⟩:=Zn A.ai.length;obtain⟨m4,hm4⟩:=Zn B.ai.length;rw[<-hn4,<-hm4] at S4;rw[<-hn4,<-hm4];clear hn4 hm4;obtain⟨n5,hn5⟩:=Zn A.aB.length;obtain⟨m5,hm5⟩:=Zn B.aB.length;rw[<-hn5,<-hm5] at S5;rw[<-hn5,<-hm5];clear hn5 hm5;obtain⟨n6,hn6⟩:=Zn A.orders.length;obtain⟨m6,hm6⟩:=Zn B.orders.length;rw[<-hn6,<-hm6] at S6;rw[<-hn6,<-hm6];clear hn6 hm6;obtain⟨n7,hn7⟩:=Zn A.aF.length;obtain⟨m7,hm7⟩:=Zn B.aF.length;rw[<-hn7,<-hm7] at S7;rw[<-hn7,<-hm7];clear hn7 hm7;obtain⟨n8,hn8⟩:=Zn A.aK.length;obtain⟨m8,hm8⟩:=Zn B.aK.length;rw[<-hn8,<-hm8] at S8;rw[<-hn8,<-hm8];clear hn8 hm8;obtain⟨d,hd⟩:=Zn A.day;obtain⟨d2,hd2⟩:=Zn B.day;have DAB:=zq (And.intro hd hd2);rw[<-hd,<-hd2];clear hd hd2;have X0:=zq (((At.start w).alloc 31 #[.int .i64 d,.slice a1 n1 c1,.slice a2 n2 c2,.slice a3 n3 c3,.slice a4 n4 c4,.slice a5 n5 c5,.slice a6 n6 c6,.slice a7 n7 c7,.slice a8 n8 c8]).alloc 31 #[.int .i64 d2,.slice b1 m1 e1,.slice b2 m2 e2,.slice b3 m3 e3,.slice b4 m4 e4,.slice b5 m5 e5,.slice b6 m6 e6,.slice b7 m7 e7,.slice b8 m8 e8])
 go_enter Tryz.func28,Tryz.ntmps28
 go_upto_region 1 with (fail)
 obtain⟨W,hW⟩:=Zn ((w.alloc (.cells #[.int .i64 d,.slice a1 n1 c1,.slice a2 n2 c2,.slice a3 n3 c3,.slice a4 n4 c4,.slice a5 n5 c5,.slice a6 n6 c6,.slice a7 n7 c7,.slice a8 n8 c8] 31)).alloc (.cells #[.int .i64 d2,.slice b1 m1 e1,.slice b2 m2 e2,.slice b3 m3 e3,.slice b4 m4 e4,.slice b5 m5 e5,.slice b6 m6 e6,.slice b7 m7 e7,.slice b8 m8 e8] 31));obtain⟨q1,hq1⟩:=Zn w.heap.size;obtain⟨q2,hq2⟩:=Zn (w.heap.size+1);rw[<-hW,<-hq2,<-hq1];have X:=zq (show At w W [(q1, 31,#[.int .i64 d,.slice a1 n1 c1,.slice a2 n2 c2,.slice a3 n3 c3,.slice a4 n4 c4,.slice a5 n5 c5,.slice a6 n6 c6,.slice a7 n7 c7,.slice a8 n8 c8]),(q2, 31,#[.int .i64 d2,.slice b1 m1 e1,.slice b2 m2 e2,.slice b3 m3 e3,.slice b4 m4 e4,.slice b5 m5 e5,.slice b6 m6 e6,.slice b7 m7 e7,.slice b8 m8 e8])] from by
  have h:=X0.o;rw[<-hW] at h
  simp at h
  rw[hq1,hq2];exact h)
 clear X0 hW hq1 hq2;have y0:W.cell? ⟨q1,0,none⟩=some (.int .i64 d):=X.o.cell 0 rfl 0 rfl;have x0:W.cell? ⟨q2,0,none⟩=some (.int .i64 d2):=X.o.cell 1 rfl 0 rfl;by_cases D0:d=d2;rotate_left
 ·obtain rfl:R=false:=by rw[ER.o];exact dD (fun e=>D0 (by rw[DAB.o.1,DAB.o.2,e]))
  have q:(d==d2)=false:=beq_false_of_ne D0
  go_wp2_with fail
  go_ret;exact⟨rfl,X.o.low⟩
 subst D0;have y1:W.cell? ⟨q1,1,none⟩=some (.slice a1 n1 c1):=X.o.cell 0 rfl 1 rfl;have x1:W.cell? ⟨q2,1,none⟩=some (.slice b1 m1 e1):=X.o.cell 1 rfl 1 rfl
 go_wp2_with fail
 refine (S1.o W X.o.low).mono ?_;rintro e w1 ⟨rfl,hb⟩;have X1:=zq (X.o.go hb);clear hb y1 x1 y0 x0;by_cases p1:A.aO=B.aO;rotate_left
 ·rw[dD p1];obtain rfl:R=false:=by rw[ER.o];exact dD (fun e=>p1 (by rw[e]))
  go_wp2_with fail
  go_ret;exact⟨rfl,X1.o.low⟩
 rw[dJ p1];have y2:w1.cell? ⟨q1,2,none⟩=some (.slice a2 n2 c2):=X1.o.cell 0 rfl 2 rfl;have x2:w1.cell? ⟨q2,2,none⟩=some (.slice b2 m2 e2):=X1.o.cell 1 rfl 2 rfl
 go_wp2_with fail
 refine (S2.o w1 X1.o.low).mono ?_;rintro e w2 ⟨rfl,hb⟩;have X2:=zq (X1.o.go hb);clear hb y2 x2;by_cases p2:A.ah=B.ah;rotate_left
 ·rw[dD p2];obtain rfl:R=false:=by rw[ER.o];exact dD (fun e=>p2 (by rw[e]))
  go_wp2_with fail
  go_ret;exact⟨rfl,X2.o.low⟩
 rw[dJ p2];have y3:w2.cell? ⟨q1,3,none⟩=some (.slice a3 n3 c3):=X2.o.cell 0 rfl 3 rfl;have x3:w2.cell? ⟨q2,3,none⟩=some (.slice b3 m3 e3):=X2.o.cell 1 rfl 3 rfl
 go_wp2_with fail
 refine (S3.o w2 X2.o.low).mono ?_;rintro e w3 ⟨rfl,hb⟩;have X3:=zq (X2.o.go hb);clear hb y3 x3;by_cases p3:A.af=B.af;rotate_left
 ·rw[dD p3];obtain rfl:R=false:=by rw[ER.o];exact dD (fun e=>p3 (by rw[e]))
  go_wp2_with fail
  go_ret;exact⟨rfl,X3.o.low⟩
 rw[dJ p3];have y5:w3.cell? ⟨q1,5,none⟩=some (.slice a5 n5 c5):=X3.o.cell 0 rfl 5 rfl;have x5:w3.cell? ⟨q2,5,none⟩=some (.slice b5 m5 e5):=X3.o.cell 1 rfl 5 rfl
 go_wp2_with fail
 refine (S5.o w3 X3.o.low).mono ?_;rintro e w5 ⟨rfl,hb⟩;have X5:=zq (X3.o.go hb);clear hb y5 x5;by_cases p5:A.aB=B.aB;rotate_left
 ·rw[dD p5];obtain rfl:R=false:=by rw[ER.o];exact dD (fun e=>p5 (by rw[e]))
  go_wp2_with fail
  go_ret;exact⟨rfl,X5.o.low⟩
 rw[dJ p5];have y6:w5.cell? ⟨q1,6,none⟩=some (.slice a6 n6 c6):=X5.o.cell 0 rfl 6 rfl;have x6:w5.cell? ⟨q2,6,none⟩=some (.slice b6 m6 e6):=X5.o.cell 1 rfl 6 rfl
 go_wp2_with fail
 refine (S6.o w5 X5.o.low).mono ?_;rintro e w6 ⟨rfl,hb⟩;have X6:=zq (X5.o.go hb);clear hb y6 x6;by_cases p6:A.orders=B.orders;rotate_left
 ·rw[dD p6];obtain rfl:R=false:=by rw[ER.o];exact dD (fun e=>p6 (by rw[e]))
  go_wp2_with fail
  go_ret;exact⟨rfl,X6.o.low⟩
 rw[dJ p6];have y7:w6.cell? ⟨q1,7,none⟩=some (.slice a7 n7 c7):=X6.o.cell 0 rfl 7 rfl;have x7:w6.cell? ⟨q2,7,none⟩=some (.slice b7 m7 e7):=X6.o.cell 1 rfl 7 rfl
 go_wp2_with fail
 refine (S7.o w6 X6.o.low).mono ?_;rintro e w7 ⟨rfl,hb⟩;have X7:=zq (X6.o.go hb);clear hb y7 x7;by_cases p7:A.aF=B.aF;rotate_left
 ·rw[dD p7];obtain rfl:R=false:=by rw[ER.o];exact dD (fun e=>p7 (by rw[e]))
  go_wp2_with fail
  go_ret;exact⟨rfl,X7.o.low⟩
 rw[dJ p7];have y8:w7.cell? ⟨q1,8,none⟩=some (.slice a8 n8 c8):=X7.o.cell 0 rfl 8 rfl;have x8:w7.cell? ⟨q2,8,none⟩=some (.slice b8 m8 e8):=X7.o.cell 1 rfl 8 rfl
 go_wp2_with fail
 refine (S8.o w7 X7.o.low).mono ?_;rintro e w8 ⟨rfl,hb⟩;have X8:=zq (X7.o.go hb);clear hb y8 x8;by_cases p8:A.aK=B.aK;rotate_left
 ·rw[dD p8];obtain rfl:R=false:=by rw[ER.o];exact dD (fun e=>p8 (by rw[e]))
  go_wp2_with fail
  go_ret;exact⟨rfl,X8.o.low⟩
 rw[dJ p8];have y4:w8.cell? ⟨q1,4,none⟩=some (.slice a4 n4 c4):=X8.o.cell 0 rfl 4 rfl;have x4:w8.cell? ⟨q2,4,none⟩=some (.slice b4 m4 e4):=X8.o.cell 1 rfl 4 rfl
 go_wp2_with fail
 refine (S4.o w8 X8.o.low).mono ?_;rintro e w4 ⟨rfl,hb⟩;have X4:=zq (X8.o.go hb);clear hb y4 x4;by_cases p4:A.ai=B.ai;rotate_left
 ·rw[dD p4];obtain rfl:R=false:=by rw[ER.o];exact dD (fun e=>p4 (by rw[e]))
  go_wp2_with fail
  go_ret;exact⟨rfl,X4.o.low⟩
 rw[dJ p4];obtain rfl:R=true:=by rw[ER.o];exact dJ (Ky (by rw[<-DAB.o.1,<-DAB.o.2]) p1 p2 p3 p4 p5 p6 p7 p8)
 go_wp2_with fail
 go_ret;exact⟨rfl,X4.o.low⟩
end Go.Proofs.YtfknkmlocbojhaaGreatDoor
