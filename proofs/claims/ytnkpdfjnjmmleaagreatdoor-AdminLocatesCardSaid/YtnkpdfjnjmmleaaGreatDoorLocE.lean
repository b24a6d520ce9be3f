/- The document's Reserve, walked. -/
import Derived.Test.YtnkpdfjnjmmleaaGreatDoorLocS
set_option linter.unusedVariables false
set_option linter.unusedSimpArgs false
set_option maxRecDepth 100000
set_option maxHeartbeats 8000000
namespace Go.Bw
theorem heldL_in {a i:Int}:∀ {l:List Pos},(∀ x∈l,0 <= x.qty /\ x.qty <= 1000000000) -> 0 <= heldL l a i /\ heldL l a i <= 1000000000
 | [],_=>by unfold heldL;omega
 | x::r,h=>by
   unfold heldL
   split
   ·exact h x (by simp)
   ·exact heldL_in fun y hy=>h y (by simp[hy])
theorem hasLoc_take {a i:Int} {l:List Pos} {k:Nat} {x:Pos} (hx:l[k]?=some x):hasLoc (l.take (k+1)) a i=(hasLoc (l.take k) a i||decide (x.acct=a /\ x.instr=i)):=by
 unfold hasLoc
 rw[List.take_add_one,hx,List.any_append]
 simp
end Go.Bw
namespace Go.Proofs.YtnkpdfjnjmmleaaGreatDoor
open Go.RowKit Go.Bw Go.Maps Go.Shelf Go.Bw.Fall
def ResRet (w:World) (r:List Int×List Pos×Int) (e:Ending) (w':World):Prop:=∃ u v,e=.returned (.tuple #[u,v,.int .i64 r.2.2]) /\ OwnOf w' w.heap.size 3 1 icell u r.1 /\ OwnOf w' w.heap.size 105 3 Pos.cells v r.2.1 /\ Below w.heap.size w w' /\ ∀ b,u.ownBlock=some b -> ¬ v.ownBlock=some b
theorem res_no {w w':World} {r:List Int×List Pos×Int} {n:Int} (h:r=([],[],n)) (hb:Below w.heap.size w w'):ResRet w r (.returned (.tuple #[.slice none 0 0,.slice none 0 0,.int .i64 n])) w':=by
 subst h
 exact⟨_,_,rfl,OwnOf.nil _ _ _ _ _,OwnOf.nil _ _ _ _ _,hb,fun b h=>by simp[Value.ownBlock] at h⟩
theorem loc_more {W1 W:World} {v:Value} {acc:List Pos} (own:OwnOf W W1.heap.size 105 3 Pos.cells v acc) (hb:Below W1.heap.size W1 W) (x:Pos) (hl:acc.length <= 1000000) :
 ∃ v' w',(Builtin.append_ #[29, 29] 29 #[v,.slice (some ⟨W.heap.size,0,none⟩) 1 1]).run Tryz.prog (W.alloc (.cells #[.int .i64 x.acct,.int .i64 x.instr,.int .i64 x.qty] 105))=.ok v' w' /\ OwnOf w' W1.heap.size 105 3 Pos.cells v' (acc++[x]) /\ Below W1.heap.size W1 w' /\ Mod (fun k=>v.ownBlock=some k) W w':=by
 obtain⟨v',w',h1,h2,h3,_⟩:=app1_loc W W1.heap.size v acc own hb.size x #[.int .i64 x.acct,.int .i64 x.instr,.int .i64 x.qty] rfl (by omega)
 exact⟨v',w',h1,h2,((Mod.of_below hb).trans h3 (fun k hk e=>by have:=(own.lt k e).1;omega)).toBelow,h3⟩
theorem res_yes {w w1 W3 W W':World} {u v:Value} {A:List Int} {D:List Pos} {r:List Int×List Pos×Int} (e:r=(A,D,0)) (b1:Below w.heap.size w w1) (ou:OwnOf W3 w1.heap.size 3 1 icell u A) (h3:Below w1.heap.size w1 W3) (hl:Below W3.heap.size W3 W) (ov:OwnOf W' W.heap.size 105 3 Pos.cells v D) (hv:Below W.heap.size W W') :
 ResRet w r (.returned (.tuple #[u,v,.int .i64 0])) W':=by
 subst e
 have h4:Below W3.heap.size W3 W':=hl.trans (hv.mono hl.size)
 have s1:=b1.size
 have s3:=h3.size
 have sl:=hl.size
 exact⟨u,v,rfl,(ou.below h4).base s1,ov.base (by omega),(b1.trans (h3.mono s1)).trans (h4.mono (by omega)),fun b hb hb2=>by have:=(ou.lt b hb).2;have:=(ov.lt b hb2).1;omega⟩
def DocAt (W1:World) (a i q:Int) (t:Bool) (l:List Pos) (D:List Pos) (k:Nat) (v:Value) (laid:Bool) (acc:List Pos) (W:World):Prop :=
 OwnOf W W1.heap.size 105 3 Pos.cells v acc /\ Below W1.heap.size W1 W /\ acc++docGo a i q t (l.drop k) laid=D /\ acc.length <= 2*k
theorem rreserve_any (w:World) (va v:Value) (av:List Int) (l:List Pos) (hA:RowOf w 1 icell va av) (hR:RowOf w 3 Pos.cells v l) (hal:av.length <= 1024) (hl:l.length <= 1024) (hz:∀ x∈av,0 <= x /\ x <= 1000000000) (hy:∀ x∈l,0 <= x.qty /\ x.qty <= 1000000000) (hs:l.Pairwise Pos.Lt) (a i q:Int) :
 Calls Tryz.prog 73 #[va,v,.int .i64 a,.int .i64 i,.int .i64 q] w (ResRet w (reserveA av l a i q)):=by
 obtain⟨pa,pc,rfl⟩:=hA.form
 obtain⟨ra,rc,rfl⟩:=hR.form
 obtain⟨n,hn⟩:∃ n,n=av.length:=⟨_,rfl⟩
 obtain⟨m,hm⟩:∃ m,m=l.length:=⟨_,rfl⟩
 have HA:=zq hA
 have HR:=zq hR
 have HN:=zq hn
 have HM:=zq hm
 have HZ:=zq hz
 have HS:=zq hs
 have HB:=zq (heldL_in (a:=a) (i:=i) hy)
 have HE:=zq (fun W (hb:Below w.heap.size w W)=>rheld_any W _ l (hR.below hb) hl a i)
 have CL:=zq (fun W (hb:Below w.heap.size w W)=>appn_int W _ av (hA.below hb) (by omega))
 obtain⟨hd,hhd⟩:∃ x,x=heldL l a i:=⟨_,rfl⟩
 have HD:=zq hhd
 rw[<- hhd] at HB HE
 rw[<- hm] at hl HE HR ⊢
 rw[<- hn] at hal HA CL ⊢
 clear hA hR hn hm hz hs hy hhd
 by_cases h0:i<0
 ·have RES:=zq (show reserveA av l a i q=([],[],32) from by unfold reserveA;rw[if_neg (by omega)])
  have d0:decide (i<0)=true:=decide_eq_true h0
  go_enter Tryz.func73,Tryz.ntmps73
  go_wp2_with fail
  go_ret3
  exact res_no RES.o (Below.refl _ _)
 obtain⟨k,rfl⟩:∃ k:Nat,i=k:=⟨i.toNat,by omega⟩
 by_cases h1:k<n
 ·have h1':¬ (n:Int) <= (k:Int):=by omega
  have hlt':(k:Int)<(n:Int):=by omega
  have hk:=zq (show k<av.length from by rw[<- HN.o];exact h1)
  obtain⟨x,hx⟩:∃ x,av[k]?=some x:=⟨_,List.getElem?_eq_getElem hk.o⟩
  have HX:=zq hx
  have hxb:=HZ.o x (List.mem_of_getElem? hx)
  have hdb:=HB.o
  have SP:=zq (show reserveA av l a (k:Int) q=if (-1000000000 <= q /\ q <= 1000000000) /\ 0 <= hd+q /\ hd+q <= 1000000000 then if q <= x then if x - q <= 1000000000 then if hasLoc l a (k:Int)=false /\ hd+q≠0 /\ 32 <= l.length then ([],[],40) else (av.set k (x - q),putLoc a (k:Int) (hd+q) l,0) else ([],[],36) else ([],[],39) else ([],[],36) from by
   have e:av.getD ((k:Int).toNat) 0=x:=by rw[Int.toNat_natCast,List.getD_eq_getElem?_getD,hx];rfl
   unfold reserveA
   rw[if_pos (by have:=hk.o;omega),e,Int.toNat_natCast,<- HD.o])
  have CB:=zq (rbound_any q)
  have CF:=zq (rsup_any (hd+q))
  go_enter Tryz.func73,Tryz.ntmps73
  go_upto_region 4 with (fail)
  refine (HE.o _ (Below.refl _ _)).mono ?_
  rintro e w1 ⟨rfl,hb⟩
  go_upto_region 4 with (fail)
  have B1:=zq hb
  have hc:=((HA.o.below hb).at_ hx)
  obtain⟨g,o,e',_,hc⟩:=hc
  have q0:w1.cell? ⟨g,o+k,none⟩=some (.int .i64 x):=by have:=hc 0 (.int .i64 x) rfl;simpa using this
  cases e'
  clear hx hc hb h0 h1
  by_cases hq:-1000000000 <= q /\ q <= 1000000000
  ·rw[decide_eq_true hq] at CB
   obtain⟨hq1,hq2⟩:=hq
   have ws:IntKind.i64.wrap (hd+q)=hd+q:=IntWalk.i64_in _ (by omega)
   have wx:IntKind.i64.wrap (x - q)=x - q:=IntWalk.i64_in _ (by omega)
   by_cases h3:0 <= hd+q /\ hd+q <= 1000000000
   ·rw[show supB (hd+q)=true from by unfold supB;exact decide_eq_true h3] at CF
    have H3:=zq h3
    clear h3
    by_cases h5:x<q
    ·have RES:=zq (show reserveA av l a (k:Int) q=([],[],39) from by rw[SP.o,if_pos ⟨⟨hq1,hq2⟩,H3.o⟩,if_neg (by omega)])
     go_wp2_with (first|(go_at_call 116;refine (CB.o _).mono ?_;rintro e w' ⟨rfl,rfl⟩)|(go_at_call 117;refine (CF.o _).mono ?_;rintro e w' ⟨rfl,rfl⟩))
     go_ret3
     exact res_no RES.o B1.o
    ·by_cases h6:(1000000000:Int)<x - q
     ·have RES:=zq (show reserveA av l a (k:Int) q=([],[],36) from by rw[SP.o,if_pos ⟨⟨hq1,hq2⟩,H3.o⟩,if_pos (by omega),if_neg (by omega)])
      go_wp2_with (first|(go_at_call 116;refine (CB.o _).mono ?_;rintro e w' ⟨rfl,rfl⟩)|(go_at_call 117;refine (CF.o _).mono ?_;rintro e w' ⟨rfl,rfl⟩))
      go_ret3
      exact res_no RES.o B1.o
     ·have SP2:=zq (show reserveA av l a (k:Int) q=if hasLoc l a (k:Int)=false /\ hd+q≠0 /\ 32 <= l.length then ([],[],40) else (av.set k (x - q),putLoc a (k:Int) (hd+q) l,0) from by rw[SP.o,if_pos ⟨⟨hq1,hq2⟩,H3.o⟩,if_pos (by omega),if_pos (by omega)])
      obtain⟨u,w2,hrun,own,hb⟩:=CL.o w1 B1.o
      have HO:=zq (And.intro own hb)
      have HRN:=zq hrun
      clear own hb hrun
      go_upto_region 11 with (first|(go_at_call 116;refine (CB.o _).mono ?_;rintro e w' ⟨rfl,rfl⟩)|(go_at_call 117;refine (CF.o _).mono ?_;rintro e w' ⟨rfl,rfl⟩)|(at_builtin;refine wpList_append_run rfl (.tmp 57) (.tmp 58) 28 rfl rfl rfl HRN.o ?_))
      clear q0
      obtain⟨b2,c2,hv2,_,_,hcell,hfree⟩:=HO.o.1.slot icell_len (by decide) HX.o
      rw[<- HN.o] at hv2
      subst hv2
      have r0:w2.cell? ⟨b2,k,none⟩=some (.int .i64 x):=by have:=hcell 0 (.int .i64 x) rfl;simpa using this
      have z0:w2.frozen? ⟨b2,k,none⟩=false:=hfree k
      have FIN:=zq (show OwnOf (w2.setCell ⟨b2,k,none⟩ (.int .i64 (x - q))) w1.heap.size 3 1 icell (.slice (some ⟨b2,0,none⟩) n c2) (av.set k (x - q)) /\ Below w1.heap.size w1 (w2.setCell ⟨b2,k,none⟩ (.int .i64 (x - q))) from by
       have hO:=HO.o.1
       have h0:=(hO.lt b2 rfl).1
       rw[HN.o] at hO ⊢
       have:=(hO.set icell_len (x':=x - q) (u:=.int .i64 (x - q)) HX.o (j:=0) (by decide) rfl).1
       rw[Nat.mul_one,Nat.add_zero] at this
       exact⟨this,HO.o.2.setCell h0 _⟩)
      clear hcell hfree
      go_upto_region 12 with (fail)
      obtain⟨W3,hW3⟩:∃ s,s=w2.setCell ⟨b2,k,none⟩ (.int .i64 (x - q)):=⟨_,rfl⟩
      rw[<- hW3] at FIN ⊢
      clear hW3 r0 z0 h5 h6 wx hxb
      obtain⟨qn,hqn⟩:∃ y,y=hd+q:=⟨_,rfl⟩
      have wq:IntKind.i64.wrap (hd+q)=qn:=by rw[hqn];exact ws
      rw[<- hqn] at SP2 H3
      have B3:=zq (B1.o.trans (FIN.o.2.mono B1.o.size))
      clear hqn ws HE CL CF CB hdb
      obtain⟨zb,hzb⟩:∃ b,(qn==0)=b:=⟨_,rfl⟩
      have EZ:=zq hzb
      have hm0:m <= 1024:=hl
      go_wp2_with fail
      go_loopw [17,75] (fun tv j wr=>∃ c:Nat,c <= m /\ j=.int .i64 c /\ ∃ tb,tv=.bool tb /\ ∃ W,W=wr /\ Hid (Below W3.heap.size W3 W /\ tb=hasLoc (l.take c) a (k:Int))) (fun _ j _=>m - (intOf j).toNat)
      case atStart=>exact⟨0,Nat.zero_le _,rfl,false,rfl,_,rfl,zq ⟨Below.refl _ _,by simp[hasLoc]⟩⟩
      case round =>
       obtain⟨c,hcm,rfl,tb,rfl,W,rfl,IV⟩:=hrel
       have BW:=zq (B3.o.trans (IV.o.1.mono B3.o.size))
       have ROW:=zq (HR.o.below BW.o)
       by_cases hlt:c<m
       ·have hlc:(c:Int)<(m:Int):=by omega
        have LT:=zq hlt
        obtain⟨y,hy⟩:∃ y,l[c]?=some y:=⟨_,List.getElem?_eq_getElem (by rw[<- HM.o];exact hlt)⟩
        obtain⟨b,o',e',_,hc⟩:=ROW.o.at_ hy
        have hc0:=hc 0 (.int .i64 y.acct) rfl
        have hc1:=hc 1 (.int .i64 y.instr) rfl
        have hc2:=hc 2 (.int .i64 y.qty) rfl
        rw[Nat.add_zero] at hc0
        cases e'
        have HY:=zq hy
        have B2:=zq (fun o=>IV.o.1.alloc IV.o.1.size o)
        have NX:=zq (show hasLoc (l.take (c+1)) a (k:Int)=(tb||decide (y.acct=a /\ y.instr=(k:Int))) from by rw[hasLoc_take HY.o,IV.o.2])
        clear hy hc
        by_cases ha:y.acct=a
        ·by_cases hi:y.instr=(k:Int)
         ·have EQ:=zq (show true=hasLoc (l.take (c+1)) a (k:Int) from by rw[NX.o,decide_eq_true ⟨ha,hi⟩,Bool.or_true])
          go_wp2_with fail
          go_roundw
          case rel=>exact⟨c+1,by have:=LT.o;omega,by go_num,_,rfl,_,rfl,zq ⟨by first|exact B2.o _|exact below_drewN (B2.o _) _,EQ.o⟩⟩
          case measure=>have:=LT.o;simp[intOf];omega
         ·have EQ:=zq (show tb=hasLoc (l.take (c+1)) a (k:Int) from by rw[NX.o,decide_eq_false (fun h=>hi h.2),Bool.or_false])
          go_wp2_with fail
          go_roundw
          case rel=>exact⟨c+1,by have:=LT.o;omega,by go_num,_,rfl,_,rfl,zq ⟨by first|exact B2.o _|exact below_drewN (B2.o _) _,EQ.o⟩⟩
          case measure=>have:=LT.o;simp[intOf];omega
        ·have EQ:=zq (show tb=hasLoc (l.take (c+1)) a (k:Int) from by rw[NX.o,decide_eq_false (fun h=>ha h.1),Bool.or_false])
         go_wp2_with fail
         go_roundw
         case rel=>exact⟨c+1,by have:=LT.o;omega,by go_num,_,rfl,_,rfl,zq ⟨by first|exact B2.o _|exact below_drewN (B2.o _) _,EQ.o⟩⟩
         case measure=>have:=LT.o;simp[intOf];omega
       ·have hlc:¬ (c:Int)<(m:Int):=by omega
        obtain rfl:m=c:=by omega
        have HT:=zq (show hasLoc l a (k:Int)=tb from by have h1:=IV.o.2;rw[HM.o,List.take_length] at h1;exact h1.symm)
        have BL:=zq IV.o.1
        clear IV hlt hcm
        have NB:=zq (show ∀ W',Below W.heap.size W W' -> Below w.heap.size w W' from fun W' h=>BW.o.trans (h.mono BW.o.size))
        rcases (show (tb=false /\ zb=false /\ 32 <= m) \/ (tb=true) \/ (tb=false /\ zb=true) \/ (tb=false /\ zb=false /\ m<32) from by cases tb <;> cases zb <;> simp <;> omega) with ⟨rfl,rfl,h32⟩|rfl|⟨rfl,rfl⟩|⟨rfl,rfl,h32⟩
        ·have h32':(32:Int) <= (m:Int):=by omega
         have RES:=zq (show reserveA av l a (k:Int) q=([],[],40) from by rw[SP2.o,if_pos ⟨HT.o,by have:=EZ.o;simpa using this,by have:=HM.o;omega⟩])
         go_wp2_with fail
         go_ret3
         exact res_no RES.o BW.o
        case' inr.inr.inr =>
         have h32':¬ (32:Int) <= (m:Int):=by omega
         have RES:=zq (show reserveA av l a (k:Int) q=(av.set k (x - q),putLoc a (k:Int) qn l,0) from by rw[SP2.o,if_neg (fun h=>by have:=h.2.2;have:=HM.o;omega)])
        case' inr.inl =>
         have RES:=zq (show reserveA av l a (k:Int) q=(av.set k (x - q),putLoc a (k:Int) qn l,0) from by rw[SP2.o,if_neg (fun h=>by have h1:=h.1;rw[HT.o] at h1;cases h1)])
        case' inr.inr.inl =>
         have RES:=zq (show reserveA av l a (k:Int) q=(av.set k (x - q),putLoc a (k:Int) qn l,0) from by rw[SP2.o,if_neg (fun h=>h.2.1 (by have:=EZ.o;simpa using this))])
        all_goals
         go_upto_region 24 with (fail)
         have ST:=zq (show docGo a (k:Int) qn (hasLoc l a (k:Int)) l (qn==0)=putLoc a (k:Int) qn l from by
          by_cases h:qn=0
          ·rw[h];exact docGo_zero HS.o
          ·rw[show (qn==0)=false from beq_false_of_ne h];exact docGo_new h HS.o rfl)
         rw[EZ.o] at ST
         go_loopw [15,16,103] (fun v z j wr=>∃ c:Nat,c <= m /\ j=.int .i64 c /\ ∃ laid acc W',z=.bool laid /\ W'=wr /\ Hid (DocAt W a (k:Int) qn (hasLoc l a (k:Int)) l (putLoc a (k:Int) qn l) c v laid acc W')) (fun _ _ j _=>m - (intOf j).toNat)
         case atStart=>exact⟨0,Nat.zero_le _,rfl,_,[],_,rfl,rfl,zq ⟨OwnOf.nil _ _ _ _ _,Below.refl _ _,by rw[List.drop_zero];exact ST.o,by simp⟩⟩
         case round =>
          clear ST
          obtain⟨c,hcm,rfl,laid,acc,W',rfl,rfl,IV⟩:=hrel
          by_cases hlt:c<m
          ·have hlc:(c:Int)<(m:Int):=by omega
           have LT:=zq hlt
           obtain⟨y,hy⟩:∃ y,l[c]?=some y:=⟨_,List.getElem?_eq_getElem (by rw[<- HM.o];exact hlt)⟩
           obtain⟨b,o',e',_,hc⟩:=(HR.o.below (NB.o W' IV.o.2.1)).at_ hy
           have hc0:=hc 0 (.int .i64 y.acct) rfl
           have hc1:=hc 1 (.int .i64 y.instr) rfl
           have hc2:=hc 2 (.int .i64 y.qty) rfl
           rw[Nat.add_zero] at hc0
           cases e'
           have DR:=zq (show l.drop c=y::l.drop (c+1) from by obtain⟨h,e⟩:=List.getElem?_eq_some_iff.1 hy;rw[<- e];exact List.drop_eq_getElem_cons h)
           clear hy hc
           go_upto_region 26 with (fail)
           obtain⟨b9,hb9⟩:∃ n,n=W'.heap.size:=⟨_,rfl⟩
           obtain⟨W6,hW6⟩:∃ s,s=W'.alloc (.cells #[.int .i64 y.acct,.int .i64 y.instr,.int .i64 y.qty] 105):=⟨_,rfl⟩
           have H9:=zq (show W6.heap[b9]?=some (.cells #[.int .i64 y.acct,.int .i64 y.instr,.int .i64 y.qty] 105 (0,0)) /\ b9=W'.heap.size from ⟨by rw[hW6,hb9];exact heap_alloc_new _ _,hb9⟩)
           have AL:=zq (show Below W'.heap.size W' W6 from by rw[hW6];exact (Below.refl _ _).alloc (Nat.le_refl _) _)
           have OA:=zq (IV.o.1.below AL.o)
           have B6:=zq (IV.o.2.1.trans (AL.o.mono IV.o.2.1.size))
           rw[<- hW6,<- hb9]
           clear hW6 hb9 hc0 hc1 hc2
           have c0:W6.cell? ⟨b9,0,none⟩=some (.int .i64 y.acct):=cell_of_heap H9.o.1 0
           have c1:W6.cell? ⟨b9,1,none⟩=some (.int .i64 y.instr):=cell_of_heap H9.o.1 1
           have c2:W6.cell? ⟨b9,2,none⟩=some (.int .i64 y.qty):=cell_of_heap H9.o.1 2
           by_cases heq:y.acct=a /\ y.instr=(k:Int)
           ·obtain⟨ha,hi⟩:=heq
            have HEQ:=zq (And.intro ha hi)
            cases laid with
            | true =>
              go_wp2_with fail
              go_roundw
              case rel=>exact⟨c+1,by have:=LT.o;omega,by go_num,true,acc,_,rfl,rfl,zq ⟨OA.o,B6.o,by have e:=IV.o.2.2.1;rw[DR.o] at e;unfold docGo at e;rw[if_pos HEQ.o,if_pos rfl] at e;rw[<- e],by have:=IV.o.2.2.2;omega⟩⟩
              case measure=>have:=LT.o;simp[intOf];omega
            | false =>
              obtain⟨v7,w7,hrun,own7,hb7,hm7⟩:=loc_more OA.o B6.o ⟨a,(k:Int),qn⟩ (by have:=IV.o.2.2.2;omega)
              have OWN7:=zq (And.intro own7 (And.intro hb7 True.intro))
              try rw[ha] at hrun
              have HRN:=zq hrun
              clear hrun own7 hb7 hm7
              go_wp2_with (at_builtin;first|refine wpList_append_run rfl (.tmp 119) (.tmp 126) 29 rfl rfl rfl HRN.o ?_)
              go_roundw
              case rel=>exact⟨c+1,by have:=LT.o;omega,by go_num,true,_,_,rfl,rfl,zq ⟨OWN7.o.1,OWN7.o.2.1,by have e:=IV.o.2.2.1;rw[DR.o] at e;unfold docGo at e;rw[if_pos HEQ.o,if_neg (by decide)] at e;rw[<- e];simp,by have:=IV.o.2.2.2;simp;omega⟩⟩
              case measure=>have:=LT.o;simp[intOf];omega
           ·have NE:=zq heq
            by_cases cond:a<y.acct \/ a=y.acct /\ (k:Int)<y.instr
            ·have COND:=zq cond
             cases laid with
             | true =>
               rcases cond with h1|⟨h1,h2⟩
               ·obtain⟨v7,w7,hrun,own7,hb7,hm7⟩:=loc_more OA.o B6.o y (by have:=IV.o.2.2.2;omega)
                have OWN7:=zq (And.intro own7 (And.intro hb7 True.intro))
                try rw[ha] at hrun
                have HRN:=zq hrun
                clear hrun own7 hb7 hm7
                go_wp2_with (at_builtin;first|refine wpList_append_run rfl (.tmp 161) (.tmp 163) 29 rfl rfl rfl HRN.o ?_)
                go_roundw
                case rel=>exact⟨c+1,by have:=LT.o;omega,by go_num,_,_,_,rfl,rfl,zq ⟨OWN7.o.1,OWN7.o.2.1,by have e:=IV.o.2.2.1;rw[DR.o] at e;unfold docGo at e;rw[if_neg NE.o,if_neg (fun h=>by cases h.1)] at e;rw[<- e];simp,by have:=IV.o.2.2.2;simp;omega⟩⟩
                case measure=>have:=LT.o;simp[intOf];omega
               ·have ha:y.acct=a:=h1.symm
                clear h1
                obtain⟨v7,w7,hrun,own7,hb7,hm7⟩:=loc_more OA.o B6.o y (by have:=IV.o.2.2.2;omega)
                have OWN7:=zq (And.intro own7 (And.intro hb7 True.intro))
                try rw[ha] at hrun
                have HRN:=zq hrun
                clear hrun own7 hb7 hm7
                go_wp2_with (at_builtin;first|refine wpList_append_run rfl (.tmp 161) (.tmp 163) 29 rfl rfl rfl HRN.o ?_)
                go_roundw
                case rel=>exact⟨c+1,by have:=LT.o;omega,by go_num,_,_,_,rfl,rfl,zq ⟨OWN7.o.1,OWN7.o.2.1,by have e:=IV.o.2.2.1;rw[DR.o] at e;unfold docGo at e;rw[if_neg NE.o,if_neg (fun h=>by cases h.1)] at e;rw[<- e];simp,by have:=IV.o.2.2.2;simp;omega⟩⟩
                case measure=>have:=LT.o;simp[intOf];omega
             | false =>
               rcases cond with h1|⟨h1,h2⟩
               ·first
                | (
                  have hf:hasLoc l a (k:Int)=false:=HT.o
                  obtain⟨v7,w7,hrun,own7,hb7,hm7⟩:=loc_more OA.o B6.o ⟨a,(k:Int),qn⟩ (by have:=IV.o.2.2.2;omega)
                  have h9:w7.heap[b9]?=some (.cells #[.int .i64 y.acct,.int .i64 y.instr,.int .i64 y.qty] 105 (0,0)):=hm7.heap H9.o.1 (fun e=>by have:=(IV.o.1.lt b9 e).2;have:=H9.o.2;omega)
                  have d0:w7.cell? ⟨b9,0,none⟩=some (.int .i64 y.acct):=cell_of_heap h9 0
                  have d1:w7.cell? ⟨b9,1,none⟩=some (.int .i64 y.instr):=cell_of_heap h9 1
                  have d2:w7.cell? ⟨b9,2,none⟩=some (.int .i64 y.qty):=cell_of_heap h9 2
                  obtain⟨v8,w8,hrun8,own8,hb8,hm8⟩:=loc_more own7 hb7 y (by have:=IV.o.2.2.2;simp;omega)
                  have OWN8:=zq (And.intro own8 (And.intro hb8 True.intro))
                  try rw[ha] at hrun
                  have HRN:=zq hrun
                  try rw[ha] at hrun8
                  have HRN8:=zq hrun8
                  clear hrun own7 hb7 hm7 hrun8 own8 hb8 hm8 h9
                  go_wp2_with (at_builtin;first|refine wpList_append_run rfl (.tmp 152) (.tmp 159) 29 rfl rfl rfl HRN.o ?_|refine wpList_append_run rfl (.tmp 161) (.tmp 163) 29 rfl rfl rfl HRN8.o ?_)
                  go_roundw
                  case rel=>exact⟨c+1,by have:=LT.o;omega,by go_num,true,_,_,rfl,rfl,zq ⟨OWN8.o.1,OWN8.o.2.1,by have e:=IV.o.2.2.1;rw[DR.o] at e;unfold docGo at e;rw[if_neg NE.o,if_pos ⟨rfl,HT.o,COND.o⟩] at e;rw[<- e];simp,by have:=IV.o.2.2.2;simp;omega⟩⟩
                  case measure=>have:=LT.o;simp[intOf];omega
                  done)
                | (
                  obtain⟨v7,w7,hrun,own7,hb7,hm7⟩:=loc_more OA.o B6.o y (by have:=IV.o.2.2.2;omega)
                  have OWN7:=zq (And.intro own7 (And.intro hb7 True.intro))
                  try rw[ha] at hrun
                  have HRN:=zq hrun
                  clear hrun own7 hb7 hm7
                  go_wp2_with (at_builtin;first|refine wpList_append_run rfl (.tmp 161) (.tmp 163) 29 rfl rfl rfl HRN.o ?_)
                  go_roundw
                  case rel=>exact⟨c+1,by have:=LT.o;omega,by go_num,_,_,_,rfl,rfl,zq ⟨OWN7.o.1,OWN7.o.2.1,by have e:=IV.o.2.2.1;rw[DR.o] at e;unfold docGo at e;rw[if_neg NE.o,if_neg (fun h=>by have h1:=h.2.1;rw[HT.o] at h1;cases h1)] at e;rw[<- e];simp,by have:=IV.o.2.2.2;simp;omega⟩⟩
                  case measure=>have:=LT.o;simp[intOf];omega
                  done)
               ·have ha:y.acct=a:=h1.symm
                clear h1
                have hi':¬ y.instr=(k:Int):=by omega
                first
                | (
                  have hf:hasLoc l a (k:Int)=false:=HT.o
                  obtain⟨v7,w7,hrun,own7,hb7,hm7⟩:=loc_more OA.o B6.o ⟨a,(k:Int),qn⟩ (by have:=IV.o.2.2.2;omega)
                  have h9:w7.heap[b9]?=some (.cells #[.int .i64 y.acct,.int .i64 y.instr,.int .i64 y.qty] 105 (0,0)):=hm7.heap H9.o.1 (fun e=>by have:=(IV.o.1.lt b9 e).2;have:=H9.o.2;omega)
                  have d0:w7.cell? ⟨b9,0,none⟩=some (.int .i64 y.acct):=cell_of_heap h9 0
                  have d1:w7.cell? ⟨b9,1,none⟩=some (.int .i64 y.instr):=cell_of_heap h9 1
                  have d2:w7.cell? ⟨b9,2,none⟩=some (.int .i64 y.qty):=cell_of_heap h9 2
                  obtain⟨v8,w8,hrun8,own8,hb8,hm8⟩:=loc_more own7 hb7 y (by have:=IV.o.2.2.2;simp;omega)
                  have OWN8:=zq (And.intro own8 (And.intro hb8 True.intro))
                  try rw[ha] at hrun
                  have HRN:=zq hrun
                  try rw[ha] at hrun8
                  have HRN8:=zq hrun8
                  clear hrun own7 hb7 hm7 hrun8 own8 hb8 hm8 h9
                  go_wp2_with (at_builtin;first|refine wpList_append_run rfl (.tmp 152) (.tmp 159) 29 rfl rfl rfl HRN.o ?_|refine wpList_append_run rfl (.tmp 161) (.tmp 163) 29 rfl rfl rfl HRN8.o ?_)
                  go_roundw
                  case rel=>exact⟨c+1,by have:=LT.o;omega,by go_num,true,_,_,rfl,rfl,zq ⟨OWN8.o.1,OWN8.o.2.1,by have e:=IV.o.2.2.1;rw[DR.o] at e;unfold docGo at e;rw[if_neg NE.o,if_pos ⟨rfl,HT.o,COND.o⟩] at e;rw[<- e];simp,by have:=IV.o.2.2.2;simp;omega⟩⟩
                  case measure=>have:=LT.o;simp[intOf];omega
                  done)
                | (
                  obtain⟨v7,w7,hrun,own7,hb7,hm7⟩:=loc_more OA.o B6.o y (by have:=IV.o.2.2.2;omega)
                  have OWN7:=zq (And.intro own7 (And.intro hb7 True.intro))
                  try rw[ha] at hrun
                  have HRN:=zq hrun
                  clear hrun own7 hb7 hm7
                  go_wp2_with (at_builtin;first|refine wpList_append_run rfl (.tmp 161) (.tmp 163) 29 rfl rfl rfl HRN.o ?_)
                  go_roundw
                  case rel=>exact⟨c+1,by have:=LT.o;omega,by go_num,_,_,_,rfl,rfl,zq ⟨OWN7.o.1,OWN7.o.2.1,by have e:=IV.o.2.2.1;rw[DR.o] at e;unfold docGo at e;rw[if_neg NE.o,if_neg (fun h=>by have h1:=h.2.1;rw[HT.o] at h1;cases h1)] at e;rw[<- e];simp,by have:=IV.o.2.2.2;simp;omega⟩⟩
                  case measure=>have:=LT.o;simp[intOf];omega
                  done)
            ·have COND:=zq cond
             have h1':¬ a<y.acct:=fun h=>cond (Or.inl h)
             by_cases ha:y.acct=a
             ·have h2':¬ (k:Int)<y.instr:=fun h=>cond (Or.inr ⟨ha.symm,h⟩)
              have hi':¬ y.instr=(k:Int):=fun h=>heq ⟨ha,h⟩
              clear cond heq
              cases laid
              ·obtain⟨v7,w7,hrun,own7,hb7,hm7⟩:=loc_more OA.o B6.o y (by have:=IV.o.2.2.2;omega)
               have OWN7:=zq (And.intro own7 (And.intro hb7 True.intro))
               try rw[ha] at hrun
               have HRN:=zq hrun
               clear hrun own7 hb7 hm7
               go_wp2_with (at_builtin;first|refine wpList_append_run rfl (.tmp 161) (.tmp 163) 29 rfl rfl rfl HRN.o ?_)
               go_roundw
               case rel=>exact⟨c+1,by have:=LT.o;omega,by go_num,_,_,_,rfl,rfl,zq ⟨OWN7.o.1,OWN7.o.2.1,by have e:=IV.o.2.2.1;rw[DR.o] at e;unfold docGo at e;rw[if_neg NE.o,if_neg (fun h=>COND.o h.2.2)] at e;rw[<- e];simp,by have:=IV.o.2.2.2;simp;omega⟩⟩
               case measure=>have:=LT.o;simp[intOf];omega
              ·obtain⟨v7,w7,hrun,own7,hb7,hm7⟩:=loc_more OA.o B6.o y (by have:=IV.o.2.2.2;omega)
               have OWN7:=zq (And.intro own7 (And.intro hb7 True.intro))
               try rw[ha] at hrun
               have HRN:=zq hrun
               clear hrun own7 hb7 hm7
               go_wp2_with (at_builtin;first|refine wpList_append_run rfl (.tmp 161) (.tmp 163) 29 rfl rfl rfl HRN.o ?_)
               go_roundw
               case rel=>exact⟨c+1,by have:=LT.o;omega,by go_num,_,_,_,rfl,rfl,zq ⟨OWN7.o.1,OWN7.o.2.1,by have e:=IV.o.2.2.1;rw[DR.o] at e;unfold docGo at e;rw[if_neg NE.o,if_neg (fun h=>COND.o h.2.2)] at e;rw[<- e];simp,by have:=IV.o.2.2.2;simp;omega⟩⟩
               case measure=>have:=LT.o;simp[intOf];omega
             ·clear cond heq
              cases laid
              ·obtain⟨v7,w7,hrun,own7,hb7,hm7⟩:=loc_more OA.o B6.o y (by have:=IV.o.2.2.2;omega)
               have OWN7:=zq (And.intro own7 (And.intro hb7 True.intro))
               try rw[ha] at hrun
               have HRN:=zq hrun
               clear hrun own7 hb7 hm7
               go_wp2_with (at_builtin;first|refine wpList_append_run rfl (.tmp 161) (.tmp 163) 29 rfl rfl rfl HRN.o ?_)
               go_roundw
               case rel=>exact⟨c+1,by have:=LT.o;omega,by go_num,_,_,_,rfl,rfl,zq ⟨OWN7.o.1,OWN7.o.2.1,by have e:=IV.o.2.2.1;rw[DR.o] at e;unfold docGo at e;rw[if_neg NE.o,if_neg (fun h=>COND.o h.2.2)] at e;rw[<- e];simp,by have:=IV.o.2.2.2;simp;omega⟩⟩
               case measure=>have:=LT.o;simp[intOf];omega
              ·obtain⟨v7,w7,hrun,own7,hb7,hm7⟩:=loc_more OA.o B6.o y (by have:=IV.o.2.2.2;omega)
               have OWN7:=zq (And.intro own7 (And.intro hb7 True.intro))
               try rw[ha] at hrun
               have HRN:=zq hrun
               clear hrun own7 hb7 hm7
               go_wp2_with (at_builtin;first|refine wpList_append_run rfl (.tmp 161) (.tmp 163) 29 rfl rfl rfl HRN.o ?_)
               go_roundw
               case rel=>exact⟨c+1,by have:=LT.o;omega,by go_num,_,_,_,rfl,rfl,zq ⟨OWN7.o.1,OWN7.o.2.1,by have e:=IV.o.2.2.1;rw[DR.o] at e;unfold docGo at e;rw[if_neg NE.o,if_neg (fun h=>COND.o h.2.2)] at e;rw[<- e];simp,by have:=IV.o.2.2.2;simp;omega⟩⟩
               case measure=>have:=LT.o;simp[intOf];omega
          ·have hlc:¬ (c:Int)<(m:Int):=by omega
           obtain rfl:m=c:=by omega
           have DE:=zq (show l.drop m=[] from by rw[HM.o,List.drop_length])
           cases laid with
           | true =>
             have EN:=zq (show acc=putLoc a (k:Int) qn l from by have e:=IV.o.2.2.1;rw[DE.o] at e;unfold docGo at e;rw[if_pos rfl,List.append_nil] at e;exact e)
             go_wp2_with fail
             go_ret3
             exact res_yes RES.o B1.o FIN.o.1 FIN.o.2 BL.o (EN.o▸IV.o.1) IV.o.2.1
           | false =>
             have EN:=zq (show acc++[⟨a,(k:Int),qn⟩]=putLoc a (k:Int) qn l from by have e:=IV.o.2.2.1;rw[DE.o] at e;unfold docGo at e;rw[if_neg (by decide)] at e;exact e)
             obtain⟨v7,w7,hrun,own7,hb7,hm7⟩:=loc_more IV.o.1 IV.o.2.1 ⟨a,(k:Int),qn⟩ (by have:=IV.o.2.2.2;omega)
             have OWN7:=zq (And.intro own7 hb7)
             have HRN:=zq hrun
             clear hrun own7 hb7 hm7
             go_wp2_with (at_builtin;refine wpList_append_run rfl (.tmp 168) (.tmp 175) 29 rfl rfl rfl HRN.o ?_)
             go_ret3
             exact res_yes RES.o B1.o FIN.o.1 FIN.o.2 BL.o (EN.o▸OWN7.o.1) OWN7.o.2
   ·have RES:=zq (show reserveA av l a (k:Int) q=([],[],36) from by rw[SP.o,if_neg (fun h=>h3 h.2)])
    rw[show supB (hd+q)=false from by unfold supB;exact decide_eq_false h3] at CF
    go_wp2_with (first|(go_at_call 116;refine (CB.o _).mono ?_;rintro e w' ⟨rfl,rfl⟩)|(go_at_call 117;refine (CF.o _).mono ?_;rintro e w' ⟨rfl,rfl⟩))
    go_ret3
    exact res_no RES.o B1.o
  ·have RES:=zq (show reserveA av l a (k:Int) q=([],[],36) from by rw[SP.o,if_neg (fun h=>hq h.1)])
   rw[decide_eq_false hq] at CB
   go_wp2_with (go_at_call 116;refine (CB.o _).mono ?_;rintro e w' ⟨rfl,rfl⟩)
   go_ret3
   exact res_no RES.o B1.o
 ·have RES:=zq (show reserveA av l a (k:Int) q=([],[],32) from by unfold reserveA;rw[if_neg (by have:=HN.o;omega)])
  have h1':(n:Int) <= (k:Int):=by omega
  go_enter Tryz.func73,Tryz.ntmps73
  go_wp2_with fail
  go_ret3
  exact res_no RES.o (Below.refl _ _)
end Go.Proofs.YtnkpdfjnjmmleaaGreatDoor
