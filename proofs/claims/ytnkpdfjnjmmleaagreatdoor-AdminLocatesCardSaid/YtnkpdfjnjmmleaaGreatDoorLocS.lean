/- What is available with so many more: the program's Supply and the document's (printed by tools/gen_supply.py). -/
import Derived.Test.YtnkpdfjnjmmleaaGreatDoorLocH
import Derived.Test.YtnkpdfjnjmmleaaGreatDoorGk
import Derived.Test.YtnkpdfjnjmmleaaGreatDoorGn
set_option linter.unusedVariables false
set_option linter.unusedSimpArgs false
set_option maxRecDepth 100000
set_option maxHeartbeats 3000000
namespace Go.Proofs.YtnkpdfjnjmmleaaGreatDoor
open Go.RowKit Go.Bw Go.Maps Go.Shelf Go.Bw.Fall
def SupRet (w:World) (r:List Int×Int) (e:Ending) (w':World):Prop:=∃ u,e=.returned (.tuple #[u,.int .i64 r.2]) /\ OwnOf w' w.heap.size 3 1 icell u r.1 /\ Below w.heap.size w w'
theorem sup_no {w w':World} {r:List Int×Int} {n:Int} (h:r=([],n)) (hb:Below w.heap.size w w'):SupRet w r (.returned (.tuple #[.slice none 0 0,.int .i64 n])) w':=by
 subst h
 exact⟨_,rfl,OwnOf.nil _ _ _ _ _,hb⟩
theorem rbound_any (q:Int) (w:World):Calls Tryz.prog 116 #[.int .i64 q] w fun e w'=>e=.returned (.bool (decide (-1000000000 <= q /\ q <= 1000000000))) /\ w=w':=by
 obtain⟨r,hr⟩:∃ r,r=decide (-1000000000 <= q /\ q <= 1000000000):=⟨_,rfl⟩
 rw[<- hr]
 have ch:¬ -1000000000 <= q \/ (-1000000000 <= q /\ ¬ q <= 1000000000) \/ (-1000000000 <= q /\ q <= 1000000000):=by omega
 rcases ch with h1|⟨h1,h2⟩|⟨h1,h2⟩
 all_goals
  first
  | (have R:=zq (show r=true from by rw[hr];exact decide_eq_true (by omega)))
  | (have R:=zq (show r=false from by rw[hr];exact decide_eq_false (by omega)))
  clear hr
  go_enter Tryz.func116,Tryz.ntmps116
  go_wp2_with fail
  go_ret
  exact⟨ret_bool (by first|(rw[R.o];done)|(rw[R.o,decide_eq_true_iff];omega)|(rw[R.o,decide_eq_false_iff_not];omega)),rfl⟩
theorem supply_any (w:World) (v:Value) (av:List Int) (hR:RowOf w 1 icell v av) (hl:av.length <= 1024) (hz:∀ x∈av,0 <= x /\ x <= 1000000000) (i q:Int) :
 Calls Tryz.prog 68 #[v,.int .i64 i,.int .i64 q] w (SupRet w (supplyA av i q)):=by
 obtain⟨va,vc,rfl⟩:=hR.form
 obtain⟨n,hn⟩:∃ n,n=av.length:=⟨_,rfl⟩
 have HR:=zq hR
 have HN:=zq hn
 have HZ:=zq hz
 have HL:=zq hl
 have CL:=zq (clone_int w _ av hR (fun x hx=>one_int x) (by omega))
 rw[<- hn] at hl HR CL ⊢
 clear hR hn hz
 by_cases h0:i<0
 ·have RES:=zq (show supplyA av i q=([],32) from by unfold supplyA;rw[if_neg (by omega)])
  have d0:decide (i<0)=true:=decide_eq_true h0
  go_enter Tryz.func68,Tryz.ntmps68
  go_wp2_with fail
  go_ret2
  exact sup_no RES.o (Below.refl _ _)
 obtain⟨k,rfl⟩:∃ k:Nat,i=k:=⟨i.toNat,by omega⟩
 by_cases h1:k<n
 ·have h1':¬ (n:Int) <= (k:Int):=by omega
  have hlt':(k:Int)<(n:Int):=by omega
  have hk:=zq (show k<av.length from by rw[<- HN.o];exact h1)
  obtain⟨x,hx⟩:∃ x,av[k]?=some x:=⟨_,List.getElem?_eq_getElem hk.o⟩
  have HX:=zq hx
  have hxb:=HZ.o x (List.mem_of_getElem? hx)
  have GD:=zq (show av.getD ((k:Int).toNat) 0=x from by rw[Int.toNat_natCast,List.getD_eq_getElem?_getD,hx];rfl)
  have SP:=zq (show supplyA av (k:Int) q=if (-1000000000 <= q /\ q <= 1000000000) /\ 0 <= x+q /\ x+q <= 1000000000 then (av.set k (x+q),0) else ([],36) from by
   unfold supplyA
   rw[if_pos (by have:=hk.o;omega),GD.o,Int.toNat_natCast])
  obtain⟨g,o,e',_,hc⟩:=HR.o.at_ hx
  have q0:w.cell? ⟨g,o+k,none⟩=some (.int .i64 x):=by have:=hc 0 (.int .i64 x) rfl;simpa using this
  cases e'
  clear hx hc
  by_cases hq:-1000000000 <= q /\ q <= 1000000000
  ·obtain⟨hq1,hq2⟩:=hq
   have ws:IntKind.i64.wrap (x+q)=x+q:=IntWalk.i64_in _ (by omega)
   by_cases h3:0 <= x+q
   ·by_cases h4:x+q <= 1000000000
    ·have hok:0 <= x+q /\ x+q <= 1000000000:=⟨h3,h4⟩
     have RES:=zq (show supplyA av (k:Int) q=(av.set k (x+q),0) from by rw[SP.o,if_pos ⟨⟨hq1,hq2⟩,h3,h4⟩])
     have h3':¬ x+q<0:=by omega
     have h4':¬ (1000000000:Int)<x+q:=by omega
     have hq1':¬ q < -1000000000:=by omega
     have hq2':¬ (1000000000:Int)<q:=by omega
     go_enter Tryz.func68,Tryz.ntmps68
     go_upto_region 8 with (refine CL.o.mono ?_;rintro e w2 ⟨u,rfl,own,hb⟩)
     have HO:=zq (And.intro own hb)
     clear own hb q0
     obtain⟨b2,c2,hv2,_,_,hcell,hfree⟩:=HO.o.1.slot icell_len (by decide) HX.o
     obtain⟨n2,hn2⟩:∃ n,n=av.length:=⟨_,rfl⟩
     rw[<- hn2] at hv2
     have HN2:=zq hn2
     have hlt2:(k:Int)<(n2:Int):=by have:=hk.o;omega
     subst hv2
     have r0:w2.cell? ⟨b2,k,none⟩=some (.int .i64 x):=by have:=hcell 0 (.int .i64 x) rfl;simpa using this
     have z0:w2.frozen? ⟨b2,k,none⟩=false:=hfree k
     have FIN:=zq (show OwnOf (w2.setCell ⟨b2,k,none⟩ (.int .i64 (x+q))) w.heap.size 3 1 icell (.slice (some ⟨b2,0,none⟩) n2 c2) (av.set k (x+q)) /\ Below w.heap.size w (w2.setCell ⟨b2,k,none⟩ (.int .i64 (x+q))) from by
      have hO:=HO.o.1
      have h0:=(hO.lt b2 rfl).1
      rw[HN2.o] at hO ⊢
      have:=(hO.set icell_len (x':=x+q) (u:=.int .i64 (x+q)) HX.o (j:=0) (by decide) rfl).1
      rw[Nat.mul_one,Nat.add_zero] at this
      exact⟨this,HO.o.2.setCell h0 _⟩)
     clear hcell hfree hn2
     go_wp2_with fail
     go_ret2
     exact⟨_,by rw[RES.o];rfl,by rw[RES.o];exact FIN.o.1,FIN.o.2⟩
    ·have RES:=zq (show supplyA av (k:Int) q=([],36) from by rw[SP.o,if_neg (fun h=>h4 h.2.2)])
     have h3':¬ x+q<0:=by omega
     have h4':(1000000000:Int)<x+q:=by omega
     have hq1':¬ q < -1000000000:=by omega
     have hq2':¬ (1000000000:Int)<q:=by omega
     go_enter Tryz.func68,Tryz.ntmps68
     go_wp2_with fail
     go_ret2
     exact sup_no RES.o (Below.refl _ _)
   ·have RES:=zq (show supplyA av (k:Int) q=([],36) from by rw[SP.o,if_neg (fun h=>h3 h.2.1)])
    have h3':x+q<0:=by omega
    have hq1':¬ q < -1000000000:=by omega
    have hq2':¬ (1000000000:Int)<q:=by omega
    go_enter Tryz.func68,Tryz.ntmps68
    go_wp2_with fail
    go_ret2
    exact sup_no RES.o (Below.refl _ _)
  ·have RES:=zq (show supplyA av (k:Int) q=([],36) from by rw[SP.o,if_neg (fun h=>hq h.1)])
   skip
   rcases Classical.em (q < -1000000000) with hq1|hq1
   ·skip
    go_enter Tryz.func68,Tryz.ntmps68
    go_wp2_with fail
    go_ret2
    exact sup_no RES.o (Below.refl _ _)
   ·have hq2:(1000000000:Int)<q:=by omega
    go_enter Tryz.func68,Tryz.ntmps68
    go_wp2_with fail
    go_ret2
    exact sup_no RES.o (Below.refl _ _)
 ·have RES:=zq (show supplyA av (k:Int) q=([],32) from by unfold supplyA;rw[if_neg (by have:=HN.o;omega)])
  have h1':(n:Int) <= (k:Int):=by omega
  go_enter Tryz.func68,Tryz.ntmps68
  go_wp2_with fail
  go_ret2
  exact sup_no RES.o (Below.refl _ _)
theorem rsupply_any (w:World) (v:Value) (av:List Int) (hR:RowOf w 1 icell v av) (hl:av.length <= 1024) (hz:∀ x∈av,0 <= x /\ x <= 1000000000) (i q:Int) :
 Calls Tryz.prog 69 #[v,.int .i64 i,.int .i64 q] w (SupRet w (supplyA av i q)):=by
 obtain⟨va,vc,rfl⟩:=hR.form
 obtain⟨n,hn⟩:∃ n,n=av.length:=⟨_,rfl⟩
 have HR:=zq hR
 have HN:=zq hn
 have HZ:=zq hz
 have HL:=zq hl
 have CL:=zq (appn_int w _ av hR (by omega))
 rw[<- hn] at hl HR CL ⊢
 clear hR hn hz
 by_cases h0:i<0
 ·have RES:=zq (show supplyA av i q=([],32) from by unfold supplyA;rw[if_neg (by omega)])
  have d0:decide (i<0)=true:=decide_eq_true h0
  go_enter Tryz.func69,Tryz.ntmps69
  go_wp2_with fail
  go_ret2
  exact sup_no RES.o (Below.refl _ _)
 obtain⟨k,rfl⟩:∃ k:Nat,i=k:=⟨i.toNat,by omega⟩
 by_cases h1:k<n
 ·have h1':¬ (n:Int) <= (k:Int):=by omega
  have hlt':(k:Int)<(n:Int):=by omega
  have hk:=zq (show k<av.length from by rw[<- HN.o];exact h1)
  obtain⟨x,hx⟩:∃ x,av[k]?=some x:=⟨_,List.getElem?_eq_getElem hk.o⟩
  have HX:=zq hx
  have hxb:=HZ.o x (List.mem_of_getElem? hx)
  have GD:=zq (show av.getD ((k:Int).toNat) 0=x from by rw[Int.toNat_natCast,List.getD_eq_getElem?_getD,hx];rfl)
  have SP:=zq (show supplyA av (k:Int) q=if (-1000000000 <= q /\ q <= 1000000000) /\ 0 <= x+q /\ x+q <= 1000000000 then (av.set k (x+q),0) else ([],36) from by
   unfold supplyA
   rw[if_pos (by have:=hk.o;omega),GD.o,Int.toNat_natCast])
  obtain⟨g,o,e',_,hc⟩:=HR.o.at_ hx
  have q0:w.cell? ⟨g,o+k,none⟩=some (.int .i64 x):=by have:=hc 0 (.int .i64 x) rfl;simpa using this
  cases e'
  clear hx hc
  by_cases hq:-1000000000 <= q /\ q <= 1000000000
  ·obtain⟨hq1,hq2⟩:=hq
   have ws:IntKind.i64.wrap (x+q)=x+q:=IntWalk.i64_in _ (by omega)
   have CB:=zq (rbound_any q)
   rw[decide_eq_true (⟨hq1,hq2⟩:-1000000000 <= q /\ q <= 1000000000)] at CB
   have CF:=zq (rsup_any (x+q))
   obtain⟨sb,hsb⟩:∃ s,s=supB (x+q):=⟨_,rfl⟩
   rw[<- hsb] at CF
   cases sb with
   | true =>
     have h34:0 <= x+q /\ x+q <= 1000000000:=by unfold supB at hsb;exact of_decide_eq_true hsb.symm
     obtain⟨h3,h4⟩:=h34
     have hok:0 <= x+q /\ x+q <= 1000000000:=⟨h3,h4⟩
     have RES:=zq (show supplyA av (k:Int) q=(av.set k (x+q),0) from by rw[SP.o,if_pos ⟨⟨hq1,hq2⟩,h3,h4⟩])
     clear hsb hok
     obtain⟨u,w2,hrun,own,hb⟩:=CL.o
     have HO:=zq (And.intro own hb)
     have HRN:=zq hrun
     clear own hb hrun
     go_enter Tryz.func69,Tryz.ntmps69
     go_upto_region 6 with (first|(go_at_call 116;refine (CB.o _).mono ?_;rintro e w' ⟨rfl,rfl⟩)|(go_at_call 117;refine (CF.o _).mono ?_;rintro e w' ⟨rfl,rfl⟩)|(at_builtin;refine wpList_append_run rfl (.tmp 30) (.tmp 31) 28 rfl rfl rfl HRN.o ?_))
     clear q0
     obtain⟨b2,c2,hv2,_,_,hcell,hfree⟩:=HO.o.1.slot icell_len (by decide) HX.o
     obtain⟨n2,hn2⟩:∃ n,n=av.length:=⟨_,rfl⟩
     rw[<- hn2] at hv2
     have HN2:=zq hn2
     have hlt2:(k:Int)<(n2:Int):=by have:=hk.o;omega
     subst hv2
     have r0:w2.cell? ⟨b2,k,none⟩=some (.int .i64 x):=by have:=hcell 0 (.int .i64 x) rfl;simpa using this
     have z0:w2.frozen? ⟨b2,k,none⟩=false:=hfree k
     have FIN:=zq (show OwnOf (w2.setCell ⟨b2,k,none⟩ (.int .i64 (x+q))) w.heap.size 3 1 icell (.slice (some ⟨b2,0,none⟩) n2 c2) (av.set k (x+q)) /\ Below w.heap.size w (w2.setCell ⟨b2,k,none⟩ (.int .i64 (x+q))) from by
      have hO:=HO.o.1
      have h0:=(hO.lt b2 rfl).1
      rw[HN2.o] at hO ⊢
      have:=(hO.set icell_len (x':=x+q) (u:=.int .i64 (x+q)) HX.o (j:=0) (by decide) rfl).1
      rw[Nat.mul_one,Nat.add_zero] at this
      exact⟨this,HO.o.2.setCell h0 _⟩)
     clear hcell hfree hn2
     go_wp2_with fail
     go_ret2
     exact⟨_,by rw[RES.o];rfl,by rw[RES.o];exact FIN.o.1,FIN.o.2⟩
   | false =>
     have RES:=zq (show supplyA av (k:Int) q=([],36) from by rw[SP.o,if_neg (fun h=>by unfold supB at hsb;exact absurd h.2 (of_decide_eq_false hsb.symm))])
     clear hsb
     go_enter Tryz.func69,Tryz.ntmps69
     go_wp2_with (first|(go_at_call 116;refine (CB.o _).mono ?_;rintro e w' ⟨rfl,rfl⟩)|(go_at_call 117;refine (CF.o _).mono ?_;rintro e w' ⟨rfl,rfl⟩))
     go_ret2
     exact sup_no RES.o (Below.refl _ _)
  ·have RES:=zq (show supplyA av (k:Int) q=([],36) from by rw[SP.o,if_neg (fun h=>hq h.1)])
   have CB:=zq (rbound_any q)
   rw[decide_eq_false hq] at CB
   rcases Classical.em (q < -1000000000) with hq1|hq1
   ·skip
    go_enter Tryz.func69,Tryz.ntmps69
    go_wp2_with (go_at_call 116;refine (CB.o _).mono ?_;rintro e w' ⟨rfl,rfl⟩)
    go_ret2
    exact sup_no RES.o (Below.refl _ _)
   ·skip
    go_enter Tryz.func69,Tryz.ntmps69
    go_wp2_with (go_at_call 116;refine (CB.o _).mono ?_;rintro e w' ⟨rfl,rfl⟩)
    go_ret2
    exact sup_no RES.o (Below.refl _ _)
 ·have RES:=zq (show supplyA av (k:Int) q=([],32) from by unfold supplyA;rw[if_neg (by have:=HN.o;omega)])
  have h1':(n:Int) <= (k:Int):=by omega
  go_enter Tryz.func69,Tryz.ntmps69
  go_wp2_with fail
  go_ret2
  exact sup_no RES.o (Below.refl _ _)
end Go.Proofs.YtnkpdfjnjmmleaaGreatDoor
