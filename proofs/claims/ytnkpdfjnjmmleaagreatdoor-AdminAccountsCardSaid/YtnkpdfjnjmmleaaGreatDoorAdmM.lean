/- The document's Give: an amount more of a currency. -/
import Derived.Test.YtnkpdfjnjmmleaaGreatDoorAdmD
namespace Go.Proofs.YtnkpdfjnjmmleaaGreatDoor
open Go.RowKit Go.Bw Go.Maps Go.Shelf Go.Bw.Fall
set_option linter.unusedVariables false
set_option linter.unusedSimpArgs false
def GiveOut (w:World) (L':Led) (er:Int) (e:Ending) (w':World):Prop :=
 Below w.heap.size w w'∧((er=0∧∃ U:LedV,e=.returned (.tuple #[U.val L',.int .i64 0])∧LedOwn w' w.heap.size U L')∨(er≠0∧∃ C,LedC C∧e=.returned (.tuple #[.agg C,.int .i64 er])))
theorem give_results:Tryz.f57.results=#[.cell 8 31,.tmp 9]:=by kernel_rfl
set_option maxRecDepth 100000 in
set_option maxHeartbeats 4000000 in
theorem rgive_any (w:World) (V:LedV) (L:Led) (h:LedAt w V L) (hG:L.Good) (k m:Nat) (p:Acc×Value) (hp:V.ac[k]?=some p) (y:Int) (hy:p.1.cash[m]?=some y) (x:Int) :
 Calls Tryz.prog 57 #[V.val L,.int .i64 (m:Int),.int .i64 x,.int .i64 (k:Int)] w (GiveOut w { L with accts:=L.accts.set k { p.1 with cash:=p.1.cash.set m (addA y x).1 } } (addA y x).2):=by
 have LC:=Lib.hid (ledc h)
 have hpa:L.accts[k]?=some p.1:=by rw[h.same,List.getElem?_map,hp];rfl
 have hkl:=(List.getElem?_eq_some_iff.1 hpa).1
 have hml:=(List.getElem?_eq_some_iff.1 hy).1
 obtain⟨n4,hn4⟩:∃ n,n=L.accts.length:=⟨_,rfl⟩
 obtain⟨n1,hn1⟩:∃ n,n=p.1.cash.length:=⟨_,rfl⟩
 have U6:=Lib.hid (show n4≤16∧n1≤4 from ⟨by rw[hn4];exact (good_bulk hG).2.2,by rw[hn1];exact (good_bulk hG).2.1 p.1 (List.mem_of_getElem? hpa)⟩)
 have CP:=Lib.hid (fun W (hb:Below w.heap.size w W)=>rcopy_any W V L (h.below hb) (good_bulk hG).1 (fun a ha=>by have:=(good_bulk hG).2.1 a ha;omega))
 have HG:=Lib.hid hG
 have HH:=Lib.hid h
 have HP:=Lib.hid (And.intro hp (And.intro hpa hy))
 have N4:=Lib.hid hn4
 have N1:=Lib.hid hn1
 obtain⟨a4,c4,e4⟩:=cells4 h
 have E4:=Lib.hid e4
 unfold LedV.val at CP ⊢
 obtain⟨C,hC⟩:∃ C,C=V.cells L:=⟨_,rfl⟩
 have EC:=Lib.hid hC
 rw[← hC] at CP LC ⊢
 obtain⟨s,er,hse⟩:∃ s er,addA y x=(s,er):=⟨_,_,rfl⟩
 have SE:=Lib.hid hse
 have AD:=Lib.hid (fun W=>radd_any y x W)
 rw[hse] at AD ⊢
 obtain⟨W0,hW0⟩:∃ s,s=(w.alloc (.cells C 31)).alloc (.cells #[.int .i64 0,.slice none 0 0,.slice none 0 0,.slice none 0 0,.slice none 0 0,.slice none 0 0,.slice none 0 0,.slice none 0 0,.slice none 0 0] 31):=⟨_,rfl⟩
 obtain⟨b0,hb0⟩:∃ n,n=w.heap.size:=⟨_,rfl⟩
 have X0:=Lib.hid (show At w W0 [(b0, 31,C),(b0+1, 31,led0)] from by
  have a:=((At.start w).alloc 31 C).alloc 31 #[.int .i64 0,.slice none 0 0,.slice none 0 0,.slice none 0 0,.slice none 0 0,.slice none 0 0,.slice none 0 0,.slice none 0 0,.slice none 0 0]
  have e:∀ (w:World) (o:Obj),(w.alloc o).heap.size=w.heap.size+1:=fun w o=>by simp
  simp only[e] at a
  rw[← hW0,← hb0] at a
  exact a)
 have k0:(0:Int)≤(k:Int):=by omega
 have k1:(k:Int)<(n4:Int):=by omega
 have m0:(0:Int)≤(m:Int):=by omega
 have m1:(m:Int)<(n1:Int):=by omega
 have LW:=Lib.hid (h.below X0.out.low)
 have hR:=LW.out.accts
 have hv:V.accts=.slice a4 n4 c4:=by
  have h1:(V.cells L)[4]?=some V.accts:=rfl
  rw[e4,← hn4] at h1;injection h1 with h1;exact h1.symm
 rw[hv] at hR
 obtain⟨b',o',e',_,hc⟩:=hR.at_ hp
 have hR2:=LW.out.cash p (List.mem_of_getElem? hp)
 obtain⟨ac,cc,ec⟩:=hR2.form
 rw[ec] at hR2
 obtain⟨b'',o'',e'',_,hc2⟩:=hR2.at_ hy
 have q1:W0.cell? ⟨b',o'+k*4+1,none⟩=some (.slice ac n1 cc):=by rw[hn1,← ec];exact hc 1 _ rfl
 have q2:W0.cell? ⟨b'',o''+m,none⟩=some (.int .i64 y):=by have:=hc2 0 _ rfl;simpa using this
 have y4:W0.cell? ⟨b0,4,none⟩=some (.slice a4 n4 c4):=X0.out.cell 0 rfl 4 (by rw[hC,hn4];exact e4)
 subst e'
 subst e''
 clear h hG hp hpa hkl hml hy hn4 hn1 e4 hC hse hR hR2 hc hc2 hv ec LW
 go_enter Tryz.func57,Tryz.ntmps57
 go_upto_region 1 with (fail)
 rw[← hW0,← hb0]
 clear hW0 hb0
 go_wp2_with fail
 refine (AD.out _).mono ?_
 rintro e w1 ⟨rfl,rfl⟩
 clear q1 q2 y4 AD
 by_cases hz:er=0
 ·subst hz
  go_wp2_with (refine led_load (X0.out.get 0 rfl) LC.out rfl rfl rfl ?_)
  refine (CP.out W0 X0.out.low).mono ?_
  rintro e w2 ⟨V2,rfl,own,hb⟩
  have FF:=Lib.hid (fbs_copy X0.out own hb)
  have B2:=Lib.hid hb
  have L2:=Lib.hid (ledc own.led)
  unfold LedV.val
  clear own hb CP
  go_upto_region 5 with (refine led_store (heap_alloc_last _ _) ledc0 L2.out rfl rfl rfl rfl ?_;rw[World.setRow_alloc_new])
  obtain⟨W5,hW5⟩:∃ s,s=w2.alloc (.cells (V2.cells L) 31):=⟨_,rfl⟩
  obtain⟨b5,hb5⟩:∃ n,n=w2.heap.size:=⟨_,rfl⟩
  rw[← hW5,← hb5] at FF
  rw[← hW5,← hb5]
  clear hW5 hb5
  obtain⟨p2,hp2⟩:∃ q,V2.ac[k]?=some q:=⟨_,List.getElem?_eq_getElem (by have h1:=congrArg List.length FF.out.own.same;rw[List.length_map] at h1;have h2:=(List.getElem?_eq_some_iff.1 HP.out.2.1).1;omega)⟩
  have hpe:p2.1=p.1:=by
   have h1:L.accts[k]?=some p2.1:=by rw[FF.out.own.same,List.getElem?_map,hp2];rfl
   rw[HP.out.2.1] at h1;exact (Option.some.inj h1).symm
  obtain⟨g,cg,hv,_,_,hcell,_⟩:=FF.out.own.accts.slot acccells_len (by decide) hp2
  obtain⟨gc,cc2,hv2,_,_,hcell2,hfree2⟩:=(FF.out.own.cash p2 (List.mem_of_getElem? hp2)).slot icell_len (by decide) (by rw[hpe];exact HP.out.2.2:p2.1.cash[m]?=some y)
  obtain⟨a4',c4',e4'⟩:=cells4 FF.out.own.led
  have hv4:V2.accts=.slice (some ⟨g,0,none⟩) n4 c4':=by
   have h1:(V2.cells L)[4]?=some V2.accts:=rfl
   rw[e4',hv] at h1;injection h1 with h1;rw[hv,← h1,N4.out];injection h1 with h2;subst h2;rfl
  have HPP:=Lib.hid (And.intro hp2 (And.intro hpe (And.intro hv2 (hfree2 m))))
  have y4:W5.cell? ⟨b5,4,none⟩=some (.slice (some ⟨g,0,none⟩) n4 c4'):=FF.out.at_.cell 0 rfl 4 (by rw[← hv4];rfl)
  have q0:W5.cell? ⟨g,k*4,none⟩=some (.int .i64 p2.1.parent):=by have:=hcell 0 _ rfl;simpa using this
  have q1:W5.cell? ⟨g,k*4+1,none⟩=some (.slice (some ⟨gc,0,none⟩) n1 cc2):=by rw[N1.out,← hpe,← hv2];exact hcell 1 _ rfl
  have q2:W5.cell? ⟨g,k*4+2,none⟩=some (.bool p2.1.flag):=hcell 2 _ rfl
  have q3:W5.cell? ⟨g,k*4+3,none⟩=some (.int .i64 p2.1.last):=hcell 3 _ rfl
  have r0:W5.cell? ⟨gc,m,none⟩=some (.int .i64 y):=by have:=hcell2 0 _ rfl;simpa using this
  have RR:=Lib.hid r0
  clear hp2 hpe hv hv2 hcell hcell2 hfree2 e4' hv4 r0
  go_upto_region 6 with (fail)
  have F6:=Lib.hid (FF.out.box 56 #[.int .i64 p2.1.parent,.slice (some ⟨gc,0,none⟩) n1 cc2,.bool p2.1.flag,.int .i64 p2.1.last])
  obtain⟨W6,hW6⟩:∃ s,s=W5.alloc (.cells #[.int .i64 p2.1.parent,.slice (some ⟨gc,0,none⟩) n1 cc2,.bool p2.1.flag,.int .i64 p2.1.last] 56):=⟨_,rfl⟩
  obtain⟨b6,hb6⟩:∃ n,n=W5.heap.size:=⟨_,rfl⟩
  have r0:W6.cell? ⟨gc,m,none⟩=some (.int .i64 y):=by rw[hW6];exact ((Mod.refl (fun _=>False) W5).alloc _).cell RR.out (fun h=>h)
  rw[← hW6,← hb6] at F6
  have rf:W6.frozen? ⟨gc,m,none⟩=false:=by
   obtain⟨gc',_,e1,_,_,_,hf⟩:=(F6.out.own.cash p2 (List.mem_of_getElem? HPP.out.1)).slot icell_len (by decide) (by rw[HPP.out.2.1];exact HP.out.2.2:p2.1.cash[m]?=some y)
   rw[HPP.out.2.2.1] at e1;injection e1 with e1;injection e1 with e1;injection e1 with e1
   rw[e1];exact hf m
  rw[← hW6,← hb6]
  clear hW6 hb6 y4 q0 q1 q2 q3
  have z1:W6.cell? ⟨b6,1,none⟩=some (.slice (some ⟨gc,0,none⟩) n1 cc2):=F6.out.at_.cell 3 rfl 1 rfl
  go_upto_region 7 with (fail)
  have FT:=Lib.hid (show fitsA s=true from by
   have h1:=SE.out
   unfold addA at h1
   split at h1
   ·rename_i h2;injection h1 with h1 _;rw[← h1];exact h2.2.2
   ·injection h1 with _ h1;cases h1)
  have F7:=Lib.hid (show FBs w W0.heap.size ((b5, 31,V2.cells L)::[(b0, 31,C),(b0+1, 31,led0),(b6, 56,#[.int .i64 p2.1.parent,.slice (some ⟨gc,0,none⟩) n1 cc2,.bool p2.1.flag,.int .i64 p2.1.last])]) { V2 with ac:=V2.ac.set k ({ p2.1 with cash:=p2.1.cash.set m s },p2.2) } { L with accts:=L.accts.set k { p2.1 with cash:=p2.1.cash.set m s } } (W6.setCell ⟨gc,m,none⟩ (.int .i64 s)) from by
   obtain⟨o1,m1⟩:=F6.out.own.setCash HPP.out.1 (g:=gc) (c:=cc2) HPP.out.2.2.1 (by rw[HPP.out.2.1];exact HP.out.2.2) (x:=s) (by have:=I64.of_fits FT.out;have h1:=this.1;have h2:=this.2;omega)
   exact F6.out.row o1 m1 (q:=k+8) (rows_cash HPP.out.1) (by rw[HPP.out.2.2.1];rfl) (by simp only[LedV.rows];rw[map_set_same (fun q:Acc×Value=>q.2) (x':=({ p2.1 with cash:=p2.1.cash.set m s },p2.2)) HPP.out.1 rfl]))
  obtain⟨W7,hW7⟩:∃ q,q=W6.setCell ⟨gc,m,none⟩ (.int .i64 s):=⟨_,rfl⟩
  rw[← hW7] at F7 ⊢
  clear hW7 r0 rf z1
  go_wp2_with (first|refine led_load (F7.out.at_.get 0 rfl) L2.out rfl rfl rfl ?_|refine led_store (F7.out.at_.get 2 rfl) ledc0 L2.out rfl rfl rfl rfl ?_)
  refine bodyPost_ret (led_res2 (q:=9) give_results _ _ (b0+1) _ rfl (setRow_heap _ _ _ _ _ _ (F7.out.at_.get 2 rfl)) L2.out) rfl ⟨(F7.out.at_.setRow 2 rfl _).low,Or.inl ⟨rfl,{ V2 with ac:=V2.ac.set k ({ p2.1 with cash:=p2.1.cash.set m s },p2.2) },?_,?_⟩⟩
  ·first|rfl|simp[LedV.val,LedV.cells]
  ·have hlt:=X0.out.lt (b0+1, 31,led0) (by simp)
   have o:=F7.out.own.mod (mod_setRow' (w:=W7) (b0+1) (V2.cells L)) (fun j hj _ e=>by subst e;simp at hlt;omega)
   rw[HPP.out.2.1] at o
   exact (by rw[HPP.out.2.1];exact o:LedOwn _ _ _ _).base X0.out.low.size
 ·have HZ:=Lib.hid hz
  have hz':(er != 0)=true:=by rw[bne_iff_ne];exact hz
  clear hz
  go_wp2_with (first|refine led_load (X0.out.get 0 rfl) LC.out rfl rfl rfl ?_|refine led_store (X0.out.get 1 rfl) ledc0 LC.out rfl rfl rfl rfl ?_)
  exact bodyPost_ret (led_res2 (q:=9) give_results _ _ (b0+1) _ rfl (setRow_heap _ _ _ _ _ _ (X0.out.get 1 rfl)) LC.out) rfl ⟨(X0.out.setRow 1 rfl _).low,Or.inr ⟨HZ.out,C,LC.out,by first|rfl|simp⟩⟩
end Go.Proofs.YtnkpdfjnjmmleaaGreatDoor
