/- locate.Reserve, walked. -/
import Derived.Test.YtnkpdfjnjmmleaaGreatDoorLocE
import Derived.Test.YtnkpdfjnjmmleaaGreatDoorLocB
import Derived.Test.YtnkpdfjnjmmleaaGreatDoorLocI
set_option linter.unusedVariables false
set_option linter.unusedSimpArgs false
set_option maxRecDepth 100000
set_option maxHeartbeats 8000000
namespace Go.Proofs.YtnkpdfjnjmmleaaGreatDoor
open Go.RowKit Go.Bw Go.Maps Go.Shelf Go.Bw.Fall
theorem res_fin {w w2 w5 w6:World} {u u2 v':Value} {A:List Int} {D:List Pos} {r:List Int×List Pos×Int} (e:r=(A,D,0)) (b2:Below w.heap.size w w2) (ou:OwnOf w2 w.heap.size 3 1 icell u A) (h25:Below w2.heap.size w2 w5)
 (h2:∀ b,u2.ownBlock=some b -> w2.heap.size <= b) (hm:Mod (fun b=>u2.ownBlock=some b) w5 w6) (ov:OwnOf w6 w2.heap.size 105 3 Pos.cells v' D):ResRet w r (.returned (.tuple #[u,v',.int .i64 0])) w6:=by
 subst e
 have hb:=b2.trans (h25.mono b2.size)
 refine⟨u,v',rfl,(ou.below h25).mod hm (fun k hk e=>by have:=(ou.lt k hk).2;have:=h2 k e;omega),ov.base b2.size,((Mod.of_below hb).trans hm (fun k hk e=>by have:=h2 k e;have:=b2.size;omega)).toBelow,fun b hb hb2=>?_⟩
 have:=(ou.lt b hb).2
 have:=(ov.lt b hb2).1
 omega
theorem own_loc_set {w:World} {B g c k:Nat} {l:List Pos} {x y:Pos} (h:OwnOf w B 105 3 Pos.cells (.slice (some ⟨g,0,none⟩) l.length c) l) (hk:l[k]?=some x) :
 OwnOf (((w.setCell ⟨g,k*3,none⟩ (.int .i64 y.acct)).setCell ⟨g,k*3+1,none⟩ (.int .i64 y.instr)).setCell ⟨g,k*3+2,none⟩ (.int .i64 y.qty)) B 105 3 Pos.cells (.slice (some ⟨g,0,none⟩) l.length c) (l.set k y) /\
 Mod (fun b=>b=g) w (((w.setCell ⟨g,k*3,none⟩ (.int .i64 y.acct)).setCell ⟨g,k*3+1,none⟩ (.int .i64 y.instr)).setCell ⟨g,k*3+2,none⟩ (.int .i64 y.qty)):=by
 have hlt:=(List.getElem?_eq_some_iff.1 hk).1
 have s1:=h.set poscells_len (x':=⟨y.acct,x.instr,x.qty⟩) (u:=.int .i64 y.acct) hk (j:=0) (by decide) rfl
 have e1:(l.set k (⟨y.acct,x.instr,x.qty⟩:Pos)).length=l.length:=List.length_set
 have s1':=s1.1
 rw[<- e1] at s1'
 have s2:=s1'.set poscells_len (x':=⟨y.acct,y.instr,x.qty⟩) (u:=.int .i64 y.instr) (k:=k) (x:=⟨y.acct,x.instr,x.qty⟩) (by rw[List.getElem?_set,if_pos rfl,if_pos hlt]) (j:=1) (by decide) rfl
 rw[List.set_set,e1] at s2
 have e2:(l.set k (⟨y.acct,y.instr,x.qty⟩:Pos)).length=l.length:=List.length_set
 have s2':=s2.1
 rw[<- e2] at s2'
 have s3:=s2'.set poscells_len (x':=y) (u:=.int .i64 y.qty) (k:=k) (x:=⟨y.acct,y.instr,x.qty⟩) (by rw[List.getElem?_set,if_pos rfl,if_pos hlt]) (j:=2) (by decide) rfl
 rw[List.set_set,e2] at s3
 exact⟨s3.1,(s1.2.trans s2.2 (fun _ _ h=>h)).trans s3.2 (fun _ _ h=>h)⟩
theorem reserve_any (w:World) (va v:Value) (av:List Int) (l:List Pos) (hA:RowOf w 1 icell va av) (hR:RowOf w 3 Pos.cells v l) (hal:av.length <= 1024) (hl:l.length <= 1024) (hz:∀ x∈av,0 <= x /\ x <= 1000000000) (hy:∀ x∈l,0 <= x.qty /\ x.qty <= 1000000000) (hs:l.Pairwise Pos.Lt) (a i q:Int) :
 Calls Tryz.prog 71 #[va,v,.int .i64 a,.int .i64 i,.int .i64 q] w (ResRet w (reserveA av l a i q)):=by
 obtain⟨pa,pc,rfl⟩:=hA.form
 obtain⟨ra,rc,rfl⟩:=hR.form
 obtain⟨n,hn⟩:∃ n,n=av.length:=⟨_,rfl⟩
 obtain⟨m,hm⟩:∃ m,m=l.length:=⟨_,rfl⟩
 have HA:=zq hA
 have HR:=zq hR
 have HN:=zq hn
 have HM:=zq hm
 have HZ:=zq hz
 have HS:=zq hs
 have HLL:=zq hl
 have HB:=zq (heldL_in (a:=a) (i:=i) hy)
 have HE:=zq (fun W (hb:Below w.heap.size w W)=>held_any W _ l (hR.below hb) hl a i)
 have SU:=zq (fun W (hb:Below w.heap.size w W)=>supply_any W _ av (hA.below hb) hal hz i (-q))
 have CL:=zq (fun W (hb:Below w.heap.size w W)=>clone_loc W _ l (hR.below hb) (fun x _=>one_loc x) (by omega))
 obtain⟨hd,hhd⟩:∃ x,x=heldL l a i:=⟨_,rfl⟩
 have HD:=zq hhd
 rw[<- hhd] at HB HE
 rw[<- hm] at hl HE HR CL ⊢
 rw[<- hn] at hal HA SU ⊢
 clear hA hR hn hm hz hs hy hhd
 by_cases h0:i<0
 ·have RES:=zq (show reserveA av l a i q=([],[],32) from by unfold reserveA;rw[if_neg (by omega)])
  have d0:decide (i<0)=true:=decide_eq_true h0
  go_enter Tryz.func71,Tryz.ntmps71
  go_wp2_with fail
  refine (HE.o _ (Below.refl _ _)).mono ?_
  rintro e w1 ⟨rfl,hb⟩
  have B1:=zq hb
  clear hb
  go_wp2_with fail
  go_ret3
  exact res_no RES.o B1.o
 obtain⟨k,rfl⟩:∃ k:Nat,i=k:=⟨i.toNat,by omega⟩
 by_cases h1:k<n
 ·have h1':¬ (n:Int) <= (k:Int):=by omega
  have hlt':(k:Int)<(n:Int):=by omega
  have hk:=zq (show k<av.length from by rw[<- HN.o];exact h1)
  obtain⟨x,hx⟩:∃ x,av[k]?=some x:=⟨_,List.getElem?_eq_getElem hk.o⟩
  have HX:=zq hx
  have hxb:=HZ.o x (List.mem_of_getElem? hx)
  have hdb:=HB.o
  have SP:=zq (show reserveA av l a (k:Int) q=if (-1000000000 <= q /\ q <= 1000000000) /\ 0 <= hd+q /\ hd+q <= 1000000000 then if q <= x then if x - q <= 1000000000 then if hasLoc l a (k:Int)=false /\ hd+q≠0 /\ 32 <= l.length then ([],[],40) else (av.set k (x - q),putLoc a (k:Int) (hd+q) l,0) else ([],[],36) else ([],[],39) else ([],[],36) from by
   have e:av.getD ((k:Int).toNat) 0=x:=by rw[Int.toNat_natCast,List.getD_eq_getElem?_getD,hx];rfl
   unfold reserveA
   rw[if_pos (by have:=hk.o;omega),e,Int.toNat_natCast,<- HD.o])
  have SS:=zq (show (-1000000000 <= q /\ q <= 1000000000) -> q <= x -> supplyA av (k:Int) (-q)=if x - q <= 1000000000 then (av.set k (x - q),0) else ([],36) from fun h1 h2=>by
   have e:av.getD ((k:Int).toNat) 0=x:=by rw[Int.toNat_natCast,List.getD_eq_getElem?_getD,hx];rfl
   unfold supplyA
   rw[if_pos (by have:=hk.o;omega),e,Int.toNat_natCast,show x+-q=x - q from by omega]
   by_cases h3:x - q <= 1000000000
   ·rw[if_pos h3,if_pos (by omega)]
   ·rw[if_neg h3,if_neg (by omega)])
  obtain⟨g,o,e',_,hc⟩:=HA.o.at_ hx
  have q0:w.cell? ⟨g,o+k,none⟩=some (.int .i64 x):=by have:=hc 0 (.int .i64 x) rfl;simpa using this
  cases e'
  have QC:=zq q0
  clear hx hc q0
  go_enter Tryz.func71,Tryz.ntmps71
  go_wp2_with fail
  refine (HE.o _ (Below.refl _ _)).mono ?_
  rintro e w1 ⟨rfl,hb⟩
  have B1:=zq hb
  clear hb HE
  by_cases hq1:q < -1000000000
  ·have RES:=zq (show reserveA av l a (k:Int) q=([],[],36) from by rw[SP.o,if_neg (by omega)])
   go_wp2_with fail
   go_ret3
   exact res_no RES.o B1.o
  by_cases hq2:(1000000000:Int)<q
  ·have RES:=zq (show reserveA av l a (k:Int) q=([],[],36) from by rw[SP.o,if_neg (by omega)])
   go_wp2_with fail
   go_ret3
   exact res_no RES.o B1.o
  have ws:IntKind.i64.wrap (hd+q)=hd+q:=IntWalk.i64_in _ (by omega)
  have wn:IntKind.i64.wrap (-q)=-q:=IntWalk.i64_in _ (by omega)
  by_cases hq3:hd+q<0
  ·have RES:=zq (show reserveA av l a (k:Int) q=([],[],36) from by rw[SP.o,if_neg (by omega)])
   go_wp2_with fail
   go_ret3
   exact res_no RES.o B1.o
  by_cases hq4:(1000000000:Int)<hd+q
  ·have RES:=zq (show reserveA av l a (k:Int) q=([],[],36) from by rw[SP.o,if_neg (by omega)])
   go_wp2_with fail
   go_ret3
   exact res_no RES.o B1.o
  have HQ:=zq (show (-1000000000 <= q /\ q <= 1000000000) /\ 0 <= hd+q /\ hd+q <= 1000000000 from by omega)
  have q1:w1.cell? ⟨g,o+k,none⟩=some (.int .i64 x):=(Mod.of_below B1.o).cell QC.o (fun h=>h)
  by_cases hq5:x<q
  ·have RES:=zq (show reserveA av l a (k:Int) q=([],[],39) from by rw[SP.o,if_pos HQ.o,if_neg (by omega)])
   go_wp2_with fail
   go_ret3
   exact res_no RES.o B1.o
  have HQ5:=zq (show q <= x from by omega)
  have SA:=zq (SS.o HQ.o.1 HQ5.o)
  by_cases hq6:x - q <= 1000000000
  rotate_left
  ·have RES:=zq (show reserveA av l a (k:Int) q=([],[],36) from by rw[SP.o,if_pos HQ.o,if_pos HQ5.o,if_neg hq6])
   have SA2:=zq (SA.o.trans (if_neg hq6))
   have CS:=zq (SU.o w1 B1.o)
   rw[SA2.o] at CS
   go_upto_region 10 with fail
   clear q1
   go_wp2_with fail
   refine CS.o.mono ?_
   rintro e w2 ⟨u,rfl,_,hb⟩
   have B2:=zq (B1.o.trans (hb.mono B1.o.size))
   clear hb
   go_wp2_with fail
   go_ret3
   exact res_no RES.o B2.o
  have SA2:=zq (SA.o.trans (if_pos hq6))
  have SPP:=zq (show reserveA av l a (k:Int) q=if hasLoc l a (k:Int)=false /\ hd+q≠0 /\ 32 <= l.length then ([],[],40) else (av.set k (x - q),putLoc a (k:Int) (hd+q) l,0) from by rw[SP.o,if_pos HQ.o,if_pos HQ5.o,if_pos hq6])
  have CS:=zq (SU.o w1 B1.o)
  rw[SA2.o] at CS
  go_upto_region 10 with fail
  clear q1
  go_wp2_with fail
  refine CS.o.mono ?_
  rintro e w2 ⟨u,rfl,own,hb⟩
  have B12:=zq hb
  have B2:=zq (B1.o.trans (hb.mono B1.o.size))
  have OU:=zq own
  clear hb own CS
  go_wp2_with fail
  refine (CL.o w2 B2.o).mono ?_
  rintro e w3 ⟨u2,rfl,own,hb⟩
  have B23:=zq hb
  have B3:=zq (B2.o.trans (hb.mono B2.o.size))
  have OU3:=zq (OU.o.below hb)
  have OV:=zq own
  clear hb own
  have PUT:=zq (thereL_has (a:=a) (i:=(k:Int)) HS.o)
  go_upto_region 15 with fail
  obtain⟨s,hs⟩:∃ s,s=hd+q:=⟨_,rfl⟩
  rw[<- hs] at SPP ⊢
  clear ws hq3 hq4 hs
  obtain⟨W4,hW4⟩:∃ ww,ww=w3.alloc (.cells #[.int .i64 a,.int .i64 (k:Int),.int .i64 s] 105):=⟨_,rfl⟩
  obtain⟨b4,hb4⟩:∃ n,n=w3.heap.size:=⟨_,rfl⟩
  have X4:=zq (show At w3 W4 [(b4, 105,#[.int .i64 a,.int .i64 (k:Int),.int .i64 s])] from by rw[hW4,hb4];exact (At.start w3).alloc _ _)
  have HB4:=zq hb4
  rw[<- hW4,<- hb4]
  clear hW4 hb4
  have d0:W4.cell? ⟨b4,0,none⟩=some (.int .i64 a):=X4.o.cell 0 rfl 0 rfl
  have d1:W4.cell? ⟨b4,1,none⟩=some (.int .i64 (k:Int)):=X4.o.cell 0 rfl 1 rfl
  have d2:W4.cell? ⟨b4,2,none⟩=some (.int .i64 s):=X4.o.cell 0 rfl 2 rfl
  have BS:=zq (bsf_loc W4 u2 l ((OV.o.below X4.o.low).row poscells_len (by decide)) HLL.o HS.o ⟨a,(k:Int),s⟩)
  obtain⟨a2,c2,hu2,hc2⟩:=OV.o.form
  rw[<- HM.o] at hu2
  subst hu2
  go_wp2_with fail
  refine BS.o.mono ?_
  rintro e w5 ⟨rfl,hb⟩
  have X5:=zq (X4.o.go hb)
  have B25:=zq (B23.o.trans (X5.o.low.mono B23.o.size))
  have OV5:=zq (OV.o.below X5.o.low)
  have OB:=zq (show ∀ b,Value.ownBlock (.slice a2 m c2)=some b -> w2.heap.size <= b from fun b hb=>(OV.o.lt b hb).1)
  have OUW:=zq (show OwnOf w2 w.heap.size 3 1 icell u (av.set k (x - q)) from OU.o.base B1.o.size)
  clear hb BS d0 d1 d2
  obtain⟨P,hP⟩:∃ P,P=posOf a (k:Int) l:=⟨_,rfl⟩
  obtain⟨TH,hTH⟩:∃ b,b=thereL a (k:Int) l:=⟨_,rfl⟩
  simp only
  rw[<- hP,<- hTH]
  have EP:=zq hP
  have ETH:=zq hTH
  have PL:=zq (show P <= l.length from by rw[hP];exact posOf_le _ _ _)
  have d2:w5.cell? ⟨b4,2,none⟩=some (.int .i64 s):=X5.o.cell 0 rfl 2 rfl
  clear hP hTH
  cases TH with
  | true =>
    have PLT:=zq (show P<l.length from by
     have:=ETH.o
     unfold thereL at this
     rw[<- EP.o] at this
     rcases Nat.lt_or_ge P l.length with h|h
     ·exact h
     ·rw[List.getElem?_eq_none h] at this;cases this)
    have hPc:P <= 1024:=by have:=PL.o;have:=HLL.o;omega
    have RES:=zq (show reserveA av l a (k:Int) q=(av.set k (x - q),if s=0 then l.eraseIdx P else l.set P ⟨a,(k:Int),s⟩,0) from by
     rw[SPP.o,if_neg (fun h=>by rw[<- PUT.o,<- ETH.o] at h;exact absurd h.1 (by decide)),putLoc_there ETH.o.symm,<- EP.o])
    by_cases hs0:s=0
    ·have hb0:(s==0)=true:=by simp[hs0]
     have R0:=zq (RES.o.trans (by rw[if_pos hs0]))
     have wp1:IntKind.i64.wrap ((P:Int)+1)=(P:Int)+1:=IntWalk.i64_in _ (by omega)
     have DE:=zq (del_loc w5 w2.heap.size (.slice a2 m c2) l OV5.o P PLT.o (by have:=HLL.o;omega))
     go_wp2_with fail
     refine DE.o.mono ?_
     rintro e w6 ⟨v',rfl,ov,hmod,_⟩
     have FIN:=zq (res_fin R0.o B2.o OUW.o B25.o OB.o hmod ov)
     clear ov hmod d2
     go_wp2_with fail
     go_ret3
     exact FIN.o
    ·have hb0:(s==0)=false:=by simp[hs0]
     have R0:=zq (RES.o.trans (by rw[if_neg hs0]))
     obtain⟨y,hy⟩:∃ y,l[P]?=some y:=⟨_,List.getElem?_eq_getElem PLT.o⟩
     obtain⟨gb,cb,ev,_,hcm,hcell,hfree⟩:=OV5.o.slot poscells_len (by decide) hy
     rw[<- HM.o] at ev
     injection ev with ev1 _ ev2
     subst ev1
     subst ev2
     have SETT:=zq (own_loc_set (y:=⟨a,(k:Int),s⟩) (by rw[<- HM.o];exact OV5.o) hy)
     rw[<- HM.o] at SETT
     have hPm:(P:Int)<(m:Int):=by have:=PLT.o;have:=HM.o;omega
     have r0:w5.cell? ⟨gb,P*3,none⟩=some (.int .i64 y.acct):=hcell 0 _ rfl
     have r1:w5.cell? ⟨gb,P*3+1,none⟩=some (.int .i64 y.instr):=hcell 1 _ rfl
     have r2:w5.cell? ⟨gb,P*3+2,none⟩=some (.int .i64 y.qty):=hcell 2 _ rfl
     have f0:w5.frozen? ⟨gb,P*3,none⟩=false:=hfree _
     have f1:w5.frozen? ⟨gb,P*3+1,none⟩=false:=hfree _
     have f2:w5.frozen? ⟨gb,P*3+2,none⟩=false:=hfree _
     have d0:w5.cell? ⟨b4,0,none⟩=some (.int .i64 a):=X5.o.cell 0 rfl 0 rfl
     have d1:w5.cell? ⟨b4,1,none⟩=some (.int .i64 (k:Int)):=X5.o.cell 0 rfl 1 rfl
     have FIN:=zq (res_fin R0.o B2.o OUW.o B25.o OB.o (SETT.o.2.mono (fun b _ e=>by rw[e];rfl)) SETT.o.1)
     clear hy hcell hfree hcm
     go_wp2_with fail
     go_ret3
     exact FIN.o
  | false =>
    have hPc:P <= 1024:=by have:=PL.o;have:=HLL.o;omega
    have NEW:=zq (show putLoc a (k:Int) s l=if s=0 then l else l.take P++⟨a,(k:Int),s⟩::l.drop P from by rw[putLoc_new ETH.o.symm,<- EP.o])
    have HNO:=zq (show hasLoc l a (k:Int)=false from by rw[<- PUT.o];exact ETH.o.symm)
    by_cases hs0:s=0
    ·have hb0:(s==0)=true:=by simp[hs0]
     have RES:=zq (show reserveA av l a (k:Int) q=(av.set k (x - q),l,0) from by
      rw[SPP.o,if_neg (fun h=>h.2.1 hs0),NEW.o,if_pos hs0])
     have FIN:=zq (res_fin RES.o B2.o OUW.o B25.o OB.o (Mod.refl _ _) OV5.o)
     go_wp2_with fail
     go_ret3
     exact FIN.o
    ·have hb0:(s==0)=false:=by simp[hs0]
     by_cases hlen:32 <= m
     ·have RES:=zq (show reserveA av l a (k:Int) q=([],[],40) from by
       rw[SPP.o,if_pos ⟨HNO.o,hs0,by rw[<- HM.o];exact hlen⟩])
      have hlen':(32:Int) <= (m:Int):=by omega
      go_wp2_with fail
      go_ret3
      exact res_no RES.o (B2.o.trans (B25.o.mono B2.o.size))
     ·have RES:=zq (show reserveA av l a (k:Int) q=(av.set k (x - q),l.take P++⟨a,(k:Int),s⟩::l.drop P,0) from by
       rw[SPP.o,if_neg (fun h=>hlen (by rw[HM.o];exact h.2.2)),NEW.o,if_neg hs0])
      have hlen':¬ (32:Int) <= (m:Int):=by omega
      have d0:w5.cell? ⟨b4,0,none⟩=some (.int .i64 a):=X5.o.cell 0 rfl 0 rfl
      have d1:w5.cell? ⟨b4,1,none⟩=some (.int .i64 (k:Int)):=X5.o.cell 0 rfl 1 rfl
      have N6:=zq (show Below w5.heap.size w5 (w5.alloc (.cells #[.int .i64 a,.int .i64 (k:Int),.int .i64 s] 105)) from (Below.refl _ _).alloc (Nat.le_refl _) _)
      have INS:=zq (ins_loc (w5.alloc (.cells #[.int .i64 a,.int .i64 (k:Int),.int .i64 s] 105)) w2.heap.size (.slice a2 m c2) l (OV5.o.below N6.o) (by have:=HLL.o;omega) (by have:=B25.o.size;have:=N6.o.size;omega) P PL.o w5.heap.size ⟨a,(k:Int),s⟩ (heap_alloc_new w5 _) (fun e=>by have:=(OV5.o.lt _ e).2;omega))
      go_wp2_with fail
      refine INS.o.mono ?_
      rintro e w6 ⟨v',rfl,ov,hmod,_⟩
      have FIN:=zq (res_fin RES.o B2.o OUW.o (B25.o.trans (N6.o.mono B25.o.size)) OB.o hmod ov)
      clear ov hmod d0 d1 d2
      go_wp2_with fail
      go_ret3
      exact FIN.o
 ·have RES:=zq (show reserveA av l a (k:Int) q=([],[],32) from by unfold reserveA;rw[if_neg (by have:=HN.o;omega)])
  have h1':(n:Int) <= (k:Int):=by omega
  go_enter Tryz.func71,Tryz.ntmps71
  go_wp2_with fail
  refine (HE.o _ (Below.refl _ _)).mono ?_
  rintro e w1 ⟨rfl,hb⟩
  have B1:=zq hb
  clear hb
  go_wp2_with fail
  go_ret3
  exact res_no RES.o B1.o
end Go.Proofs.YtnkpdfjnjmmleaaGreatDoor
