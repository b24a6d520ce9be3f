/- slices.BinarySearchFunc at reservations, walked. -/
import Derived.Test.YtnkpdfjnjmmleaaGreatDoorGm
import Derived.Test.YtnkpdfjnjmmleaaGreatDoorGk
import Derived.Test.YtnkpdfjnjmmleaaGreatDoorGa
import Derived.Test.YtnkpdfjnjmmleaaGreatDoorGn
import Derived.Test.YtnkpdfjnjmmleaaGreatDoorGg
set_option linter.unusedVariables false
set_option linter.unusedSimpArgs false
set_option maxRecDepth 100000
set_option maxHeartbeats 4000000
namespace Go.Bw
theorem pair_at {l:List Pos} (hs:l.Pairwise Pos.Lt) {k h:Nat} {x y:Pos} (hx:l[k]?=some x) (hy:l[h]?=some y) (hlt:k<h):x.Lt y:=by
 obtain⟨h1,e1⟩:=List.getElem?_eq_some_iff.1 hx
 obtain⟨h2,e2⟩:=List.getElem?_eq_some_iff.1 hy
 have:=List.pairwise_iff_getElem.1 hs k h h1 h2 hlt
 rwa [e1,e2] at this
theorem keyLt_dn {a i:Int} {l:List Pos} (hs:l.Pairwise Pos.Lt) {k h:Nat} {x y:Pos} (hx:l[k]?=some x) (hy:l[h]?=some y) (hkh:k <= h) (hl:keyLt a i y=true):keyLt a i x=true:=by
 rcases Nat.lt_or_eq_of_le hkh with hlt|rfl
 ·have h1:=pair_at hs hx hy hlt
  have h2:=of_decide_eq_true hl
  unfold Pos.Lt at h1
  exact decide_eq_true (by omega)
 ·rw[hx] at hy;cases hy;exact hl
theorem keyLt_up {a i:Int} {l:List Pos} (hs:l.Pairwise Pos.Lt) {k h:Nat} {x y:Pos} (hx:l[k]?=some x) (hy:l[h]?=some y) (hkh:h <= k) (hl:keyLt a i y=false):keyLt a i x=false:=by
 rcases Nat.lt_or_eq_of_le hkh with hlt|rfl
 ·have h1:=pair_at hs hy hx hlt
  have h2:=of_decide_eq_false hl
  unfold Pos.Lt at h1
  exact decide_eq_false (by omega)
 ·rw[hx] at hy;cases hy;exact hl
end Go.Bw
namespace Go.Proofs.YtnkpdfjnjmmleaaGreatDoor
open Go.RowKit Go.Bw Go.Maps Go.Shelf Go.Bw.Fall
theorem byI_key (x t:Pos):(byI x.acct t.acct x.instr t.instr<0)↔keyLt t.acct t.instr x=true:=by
 rw[byI_lt]
 unfold keyLt
 rw[decide_eq_true_iff]
theorem byI_eq (a b c d:Int):byI a b c d=0↔a=b /\ c=d:=by
 unfold byI cmpI
 split <;> split <;> (try split) <;> omega
theorem bsf_loc (w:World) (v:Value) (l:List Pos) (hR:RowOf w 3 Pos.cells v l) (hl:l.length <= 1024) (hs:l.Pairwise Pos.Lt) (t:Pos) :
 Calls Tryz.prog 119 #[v,.agg #[.int .i64 t.acct,.int .i64 t.instr,.int .i64 t.qty],.func (.func 120) #[] #[]] w fun e w'=>e=.returned (.tuple #[.int .i64 (posOf t.acct t.instr l:Nat),.bool (thereL t.acct t.instr l)]) /\ Below w.heap.size w w':=by
 obtain⟨ra,rc,rfl⟩:=hR.form
 obtain⟨m,hm⟩:∃ m,m=l.length:=⟨_,rfl⟩
 have HR:=zq hR
 have HM:=zq hm
 have HS:=zq hs
 obtain⟨RP,hRP⟩:∃ p,p=posOf t.acct t.instr l:=⟨_,rfl⟩
 obtain⟨RT,hRT⟩:∃ b,b=thereL t.acct t.instr l:=⟨_,rfl⟩
 have EP:=zq (And.intro hRP hRT)
 rw[<- hm] at hl HR ⊢
 rw[<- hRP,<- hRT]
 clear hR hm hs hRP hRT
 have X0:=zq (show At w (w.alloc (.cells #[.int .i64 t.acct,.int .i64 t.instr,.int .i64 t.qty] 105)) [(w.heap.size, 105,#[.int .i64 t.acct,.int .i64 t.instr,.int .i64 t.qty])] from (At.start w).alloc _ _)
 go_enter Tryz.func119,Tryz.ntmps119
 go_upto_region 1 with (fail)
 obtain⟨W0,hW0⟩:∃ s,s=w.alloc (.cells #[.int .i64 t.acct,.int .i64 t.instr,.int .i64 t.qty] 105):=⟨_,rfl⟩
 obtain⟨b0,hb0⟩:∃ n,n=w.heap.size:=⟨_,rfl⟩
 rw[<- hW0,<- hb0] at X0
 rw[<- hW0,<- hb0]
 clear hW0 hb0
 go_wp2_with fail
 go_loopw [9,10] (fun i j wr=>∃ p q:Nat,p <= q /\ q <= m /\ i=.int .i64 p /\ j=.int .i64 q /\ Hid ((∀ (k:Nat) x,k<p -> l[k]?=some x -> keyLt t.acct t.instr x=true) /\ (∀ (k:Nat) x,q <= k -> l[k]?=some x -> keyLt t.acct t.instr x=false)) /\ ∃ W,W=wr /\ Hid (At w W [(b0, 105,#[.int .i64 t.acct,.int .i64 t.instr,.int .i64 t.qty])])) (fun i j _=>(intOf j).toNat - (intOf i).toNat)
 case atStart=>exact⟨0,m,Nat.zero_le _,Nat.le_refl _,rfl,rfl,zq ⟨fun k x hk=>absurd hk (Nat.not_lt_zero _),fun k x hk hx=>by have:=(List.getElem?_eq_some_iff.1 hx).1;have:=HM.o;omega⟩,_,rfl,X0⟩
 case round =>
  clear X0
  obtain⟨p,q,hpq,hqm,rfl,rfl,IV,W,rfl,XW⟩:=hrel
  by_cases hlt:p<q
  ·have hlt':(p:Int)<(q:Int):=by omega
   have LT:=zq (And.intro hlt hqm)
   obtain⟨h,hh⟩:∃ h,h=(p+q) / 2:=⟨_,rfl⟩
   have HH:=zq (show p <= h /\ h<q from by omega)
   have hhi:((p:Int)+(q:Int)) / 2=(h:Int):=by omega
   obtain⟨x,hx⟩:∃ x,l[h]?=some x:=⟨_,List.getElem?_eq_getElem (by have:=HM.o;omega)⟩
   have ROW:=zq (HR.o.below XW.o.low)
   obtain⟨b,o,e',_,hc⟩:=ROW.o.at_ hx
   subst e'
   have cx0:=hc 0 (.int .i64 x.acct) rfl
   have cx1:=hc 1 (.int .i64 x.instr) rfl
   have cx2:=hc 2 (.int .i64 x.qty) rfl
   simp only[Nat.add_zero] at cx0
   have HX:=zq hx
   have hlm:(h:Int)<(m:Int):=by omega
   have d0:W.cell? ⟨b0,0,none⟩=some (.int .i64 t.acct):=XW.o.cell 0 rfl 0 rfl
   have d1:W.cell? ⟨b0,1,none⟩=some (.int .i64 t.instr):=XW.o.cell 0 rfl 1 rfl
   have d2:W.cell? ⟨b0,2,none⟩=some (.int .i64 t.qty):=XW.o.cell 0 rfl 2 rfl
   clear hx hc hh
   go_upto_region 5 with (fail)
   have BW:=zq XW.o.drew
   refine Fall2.wp_region_tree (C:=fun w'=>True) [6] [] (.step 0 (.step 1 (.step 2 (.step 3 (.step 4 (.step 5 (.step 6 (.step 7 .leaf)))))))) (fun _ _ _=>False) (by kernel_rfl) (fun _ _ _ h=>h.elim) (by kernel_rfl) trivial ?_
   refine Fall2.tree_still [0,1,2,3,4,5] (by kernel_rfl) ?_
   simp only[pickL,nth]
   repeat (go_big_quiet_step (fail))
   refine wpQuiet_nil ?_
   clear cx0 cx1 cx2 d0 d1 d2
   refine Fall2.tree_eff (by kernel_rfl) rfl (fun K hK=>?_)
   simp only[pickL,nth]
   refine wpOne_one ?_
   go_simp
   refine (byLoc_any _ x t).mono ?_
   rintro e w2 ⟨rfl,hb⟩
   have X2:=zq (BW.o.go hb)
   clear hb BW
   have KY:=zq (byI_key x t)
   obtain⟨bv,hbv⟩:∃ n,n=byI x.acct t.acct x.instr t.instr:=⟨_,rfl⟩
   rw[<- hbv] at KY ⊢
   clear hbv
   go_simp
   refine hK _ _ (fun _=>trivial) ?_
   clear hK
   go_simp
   refine Fall2.tree_still [7] (by kernel_rfl) ?_
   simp only[pickL,nth]
   repeat (go_big_quiet_step (fail))
   refine wpQuiet_nil ?_
   refine Fall2.tree_nil ?_
   by_cases hn:bv<0
   ·have IV2:=zq (show (∀ (k:Nat) z,k<h+1 -> l[k]?=some z -> keyLt t.acct t.instr z=true) /\ (∀ (k:Nat) z,q <= k -> l[k]?=some z -> keyLt t.acct t.instr z=false) from
     ⟨fun k z hk hz=>keyLt_dn HS.o hz HX.o (by omega) (KY.o.1 hn),IV.o.2⟩)
    go_wp2_with fail
    go_roundw
    case rel=>exact⟨h+1,q,by have:=HH.o;omega,hqm,by go_num,rfl,IV2,_,rfl,X2⟩
    case measure=>have:=HH.o;simp[intOf];omega
   ·have IV2:=zq (show (∀ (k:Nat) z,k<p -> l[k]?=some z -> keyLt t.acct t.instr z=true) /\ (∀ (k:Nat) z,h <= k -> l[k]?=some z -> keyLt t.acct t.instr z=false) from
     ⟨IV.o.1,fun k z hk hz=>keyLt_up HS.o hz HX.o hk (by cases hb:keyLt t.acct t.instr x with
      | false=>rfl
      | true=>exact absurd (KY.o.2 hb) hn)⟩)
    go_wp2_with fail
    go_roundw
    case rel=>exact⟨p,h,by have:=HH.o;omega,by have:=HH.o;omega,rfl,rfl,IV2,_,rfl,X2⟩
    case measure=>have:=HH.o;simp[intOf];omega
  ·have hlt':¬ (p:Int)<(q:Int):=by omega
   obtain rfl:p=q:=by omega
   have EPP:=zq (show RP=p from by rw[EP.o.1];exact posOf_one (by rw[<- HM.o];exact hqm) IV.o.1 (fun x hx=>IV.o.2 p x (Nat.le_refl _) hx))
   go_upto_region 8 with (fail)
   have BW:=zq XW.o.drew
   by_cases hpm:p<m
   ·have hlm:(p:Int)<(m:Int):=by omega
    obtain⟨x,hx⟩:∃ x,l[p]?=some x:=⟨_,List.getElem?_eq_getElem (by have:=HM.o;omega)⟩
    have ROW:=zq (HR.o.below XW.o.low)
    obtain⟨b,o,e',_,hc⟩:=ROW.o.at_ hx
    subst e'
    have cx0:=hc 0 (.int .i64 x.acct) rfl
    have cx1:=hc 1 (.int .i64 x.instr) rfl
    have cx2:=hc 2 (.int .i64 x.qty) rfl
    simp only[Nat.add_zero] at cx0
    have RTT:=zq (show RT=decide (x.acct=t.acct /\ x.instr=t.instr) from by
     rw[EP.o.2];unfold thereL;rw[<- EP.o.1,EPP.o,hx])
    have d0:W.cell? ⟨b0,0,none⟩=some (.int .i64 t.acct):=XW.o.cell 0 rfl 0 rfl
    have d1:W.cell? ⟨b0,1,none⟩=some (.int .i64 t.instr):=XW.o.cell 0 rfl 1 rfl
    have d2:W.cell? ⟨b0,2,none⟩=some (.int .i64 t.qty):=XW.o.cell 0 rfl 2 rfl
    clear hx hc
    refine Fall2.wp_region_tree (C:=fun w'=>True) [11] [0] (.step 0 (.step 1 (.step 2 (.step 3 (.step 4 (.step 5 (.step 6 (.step 7 (.step 8 (.step 9 (.step 10 (.step 11 (.step 12 (.step 13 (.step 14 (.step 15 .leaf)))))))))))))))) (fun _ _ _=>False) (by kernel_rfl) (fun _ _ _ h=>h.elim) (by kernel_rfl) trivial ?_
    refine Fall2.tree_pure [0] (by kernel_rfl) ?_
    simp only[pickL,nth]
    repeat (go_big_quiet_step (fail))
    refine wpQuiet_nil ?_
    refine Fall2.tree_still [1,2,3,4,5,6,7,8,9,10] (by kernel_rfl) ?_
    simp only[pickL,nth]
    repeat (go_big_quiet_step (fail))
    refine wpQuiet_nil ?_
    clear cx0 cx1 cx2 d0 d1 d2
    refine Fall2.tree_effw (by kernel_rfl) (by rfl) (fun K hK=>?_)
    simp only[pickL,nth]
    refine wpOne_one ?_
    go_simp
    refine (byLoc_any _ x t).mono ?_
    rintro e w2 ⟨rfl,hb⟩
    have X2:=zq (BW.o.go hb)
    clear hb BW
    have KY:=zq (byI_eq x.acct t.acct x.instr t.instr)
    obtain⟨bv,hbv⟩:∃ n,n=byI x.acct t.acct x.instr t.instr:=⟨_,rfl⟩
    rw[<- hbv] at KY ⊢
    clear hbv
    go_simp
    refine hK _ _ (fun _=>trivial) ?_
    clear hK
    go_simp
    by_cases hn:bv=0
    ·have hnb:(bv==0)=true:=by simp[hn]
     obtain rfl:RT=true:=by rw[RTT.o];exact decide_eq_true (KY.o.1 hn)
     clear hn
     refine Fall2.tree_still [12,13,14,15] (by kernel_rfl) ?_
     simp only[pickL,nth]
     repeat (go_big_quiet_step (fail))
     refine wpQuiet_nil ?_
     refine Fall2.tree_nil ?_
     go_wp2_with fail
     go_ret2
     exact⟨by rw[EPP.o];rfl,X2.o.low⟩
    ·have hnb:(bv==0)=false:=by simp[hn]
     obtain rfl:RT=false:=by rw[RTT.o];exact decide_eq_false (fun h=>hn (KY.o.2 h))
     clear hn
     refine Fall2.tree_still [12,13,14,15] (by kernel_rfl) ?_
     simp only[pickL,nth]
     repeat (go_big_quiet_step (fail))
     refine wpQuiet_nil ?_
     refine Fall2.tree_nil ?_
     go_wp2_with fail
     go_ret2
     exact⟨by rw[EPP.o];rfl,X2.o.low⟩
   ·have hlm:¬ (p:Int)<(m:Int):=by omega
    obtain rfl:RT=false:=by
     rw[EP.o.2];unfold thereL;rw[<- EP.o.1,EPP.o,List.getElem?_eq_none (by have:=HM.o;omega)]
    refine Fall2.wp_region_tree (C:=fun w'=>True) [11] [0] (.step 0 (.step 1 (.step 2 (.step 3 (.step 4 (.step 5 (.step 6 (.step 7 (.step 8 (.step 9 (.step 10 (.step 11 (.step 12 (.step 13 (.step 14 (.step 15 .leaf)))))))))))))))) (fun _ _ _=>False) (by kernel_rfl) (fun _ _ _ h=>h.elim) (by kernel_rfl) trivial ?_
    refine Fall2.tree_pure [0] (by kernel_rfl) ?_
    simp only[pickL,nth]
    repeat (go_big_quiet_step (fail))
    refine wpQuiet_nil ?_
    refine Fall2.tree_still [1,2,3,4,5,6,7,8,9,10] (by kernel_rfl) ?_
    simp only[pickL,nth]
    repeat (go_big_quiet_step (fail))
    refine wpQuiet_nil ?_
    refine Fall2.tree_skip (by kernel_rfl) rfl (by rfl) (fun _=>trivial) ?_
    go_simp
    refine Fall2.tree_still [12,13,14,15] (by kernel_rfl) ?_
    simp only[pickL,nth]
    repeat (go_big_quiet_step (fail))
    refine wpQuiet_nil ?_
    refine Fall2.tree_nil ?_
    go_wp2_with fail
    go_ret2
    exact⟨by rw[EPP.o];rfl,BW.o.low⟩
end Go.Proofs.YtnkpdfjnjmmleaaGreatDoor
