/- Joined: AdmM, LifH. -/
import Derived.Test.YtcepekniflaoaaaGreatDoorHc
set_option linter.unusedVariables false
set_option linter.unusedSimpArgs false
set_option maxRecDepth 100000
set_option maxHeartbeats 4000000
namespace Go.Proofs.YtcepekniflaoaaaGreatDoor
open Go.RowKit Go.Bw Go.Maps Go.Shelf Go.Bw.Fall
def Ie (w:World) (L':aH) (er:Int) (e:Ending) (w':World):Prop :=
 Below w.heap.size w w'/\((er=0/\∃ U:aB,e=.returned (.tuple #[U.val L',.int .i64 0])/\bF w' w.heap.size U L')\/(er≠0/\∃ C,mO C/\e=.returned (.tuple #[.agg C,.int .i64 er])))
theorem sW:Tryz.f84.results=#[.cell 8 31,.tmp 9]:=by kernel_rfl
theorem NY (w:World) (V:aB) (L:aH) (h:bK w V L) (hG:L.bulk<=1000000/\(∀ a∈L.ai,a.aT.length<=4)/\L.ai.length<=16) (k m:Nat) (p:Acc×Value) (hp:V.ac[k]?=some p) (y:Int) (hy:p.1.aT[m]?=some y) (x:Int) :
 Calls Tryz.prog 84 #[V.val L,.int .i64 (m:Int),.int .i64 x,.int .i64 (k:Int)] w (Ie w { L with ai:=L.ai.set k { p.1 with aT:=p.1.aT.set m (dQ y x).1 } } (dQ y x).2):=by
 have LC:=zq (iC h);have hpa:L.ai[k]?=some p.1:=by rw[h.same,List.getElem?_map,hp];rfl
 have hkl:=(List.getElem?_eq_some_iff.1 hpa).1;have hml:=(List.getElem?_eq_some_iff.1 hy).1;obtain⟨n4,hn4⟩:=Zn L.ai.length;obtain⟨n1,hn1⟩:=Zn p.1.aT.length;have U6:=zq (show n4<=16/\n1<=4 from ⟨by rw[hn4];exact hG.2.2,by rw[hn1];exact hG.2.1 p.1 (List.mem_of_getElem? hpa)⟩);have CP:=zq (fun W (hb:Below w.heap.size w W)=>qX W V L (h.below hb) hG.1 (fun a ha=>by have:=hG.2.1 a ha;omega));have HG:=zq hG;have HH:=zq h;have HP:=zq (And.intro hp (And.intro hpa hy));have N4:=zq hn4;have N1:=zq hn1;obtain⟨a4,c4,e4⟩:=cells4 h;have E4:=zq e4;unfold aB.val at CP ⊢;obtain⟨C,hC⟩:=Zn (V.cells L);have EC:=zq hC;rw[<-hC] at CP LC ⊢;obtain⟨s,er,hse⟩:∃ s er,dQ y x=(s,er):=⟨_,_,rfl⟩;have SE:=zq hse;have AD:=zq (fun W=>oq y x W);rw[hse] at AD ⊢;obtain⟨W0,hW0⟩:=Zn ((w.alloc (.cells C 31)).alloc (.cells #[.int .i64 0,.slice none 0 0,.slice none 0 0,.slice none 0 0,.slice none 0 0,.slice none 0 0,.slice none 0 0,.slice none 0 0,.slice none 0 0] 31));obtain⟨b0,hb0⟩:=Zn w.heap.size;have X0:=zq (show At w W0 [(b0, 31,C),(b0+1, 31,aZ)] from by
  have a:=((At.start w).alloc 31 C).alloc 31 #[.int .i64 0,.slice none 0 0,.slice none 0 0,.slice none 0 0,.slice none 0 0,.slice none 0 0,.slice none 0 0,.slice none 0 0,.slice none 0 0];have e:∀ (w:World) (o:Obj),(w.alloc o).heap.size=w.heap.size+1:=fun w o=>by simp
  simp only[e] at a
  rw[<-hW0,<-hb0] at a;exact a)
 have k0:(0:Int)<=(k:Int):=by omega
 have k1:(k:Int)<(n4:Int):=by omega
 have m0:(0:Int)<=(m:Int):=by omega
 have m1:(m:Int)<(n1:Int):=by omega
 have LW:=zq (h.below X0.o.low);have hR:=LW.o.ai;have hv:V.ai=.slice a4 n4 c4:=by
  have h1:(V.cells L)[4]?=some V.ai:=rfl;rw[e4,<-hn4] at h1;injection h1 with h1;exact h1.symm
 rw[hv] at hR;obtain⟨b',o',e',_,hc⟩:=hR.at_ hp;have hR2:=LW.o.aT p (List.mem_of_getElem? hp);obtain⟨ac,cc,ec⟩:=hR2.form;rw[ec] at hR2;obtain⟨b'',o'',e'',_,hc2⟩:=hR2.at_ hy;have q1:W0.cell? ⟨b',o'+k*4+1,none⟩=some (.slice ac n1 cc):=by rw[hn1,<-ec];exact hc 1 _ rfl
 have q2:W0.cell? ⟨b'',o''+m,none⟩=some (.int .i64 y):=by have:=hc2 0 _ rfl;simpa using this
 have y4:W0.cell? ⟨b0,4,none⟩=some (.slice a4 n4 c4):=X0.o.cell 0 rfl 4 (by rw[hC,hn4];exact e4);subst e';subst e'';clear h hG hp hpa hkl hml hy hn4 hn1 e4 hC hse hR hR2 hc hc2 hv ec LW
 go_enter Tryz.func84,Tryz.ntmps84
 go_upto_region 1 with (fail)
 rw[<-hW0,<-hb0];clear hW0 hb0
 go_wp2_with fail
 refine (AD.o _).mono ?_;rintro e w1 ⟨rfl,rfl⟩;clear q1 q2 y4 AD;by_cases hz:er=0
 ·subst hz
  go_wp2_with (refine bW (X0.o.get 0 rfl) LC.o rfl rfl rfl ?_)
  refine (CP.o W0 X0.o.low).mono ?_;rintro e w2 ⟨V2,rfl,own,hb⟩;have FF:=zq (sS X0.o own hb);have B2:=zq hb;have L2:=zq (iC own.led);unfold aB.val;clear own hb CP
  go_upto_region 5 with (refine aW (heap_alloc_last _ _) bG L2.o rfl rfl rfl rfl ?_;rw[World.setRow_alloc_new])
  obtain⟨W5,hW5⟩:=Zn (w2.alloc (.cells (V2.cells L) 31));obtain⟨b5,hb5⟩:=Zn w2.heap.size;rw[<-hW5,<-hb5] at FF;rw[<-hW5,<-hb5];clear hW5 hb5;obtain⟨p2,hp2⟩:∃ q,V2.ac[k]?=some q:=⟨_,Zg (by have h1:=congrArg List.length FF.o.own.same;rw[List.length_map] at h1;have h2:=(List.getElem?_eq_some_iff.1 HP.o.2.1).1;omega)⟩;have hpe:p2.1=p.1:=by
   have h1:L.ai[k]?=some p2.1:=by rw[FF.o.own.same,List.getElem?_map,hp2];rfl
   rw[HP.o.2.1] at h1;exact (Option.some.inj h1).symm
  obtain⟨g,cg,hv,_,_,hcell,_⟩:=FF.o.own.ai.slot eG (by decide) hp2;obtain⟨gc,cc2,hv2,_,_,hcell2,hfree2⟩:=(FF.o.own.aT p2 (List.mem_of_getElem? hp2)).slot iM (by decide) (by rw[hpe];exact HP.o.2.2:p2.1.aT[m]?=some y);obtain⟨a4',c4',e4'⟩:=cells4 FF.o.own.led;have hv4:V2.ai=.slice (some ⟨g,0,none⟩) n4 c4':=by
   have h1:(V2.cells L)[4]?=some V2.ai:=rfl;rw[e4',hv] at h1;injection h1 with h1;rw[hv,<-h1,N4.o];injection h1 with h2;subst h2;rfl
  have HPP:=zq (And.intro hp2 (And.intro hpe (And.intro hv2 (hfree2 m))));have y4:W5.cell? ⟨b5,4,none⟩=some (.slice (some ⟨g,0,none⟩) n4 c4'):=FF.o.at_.cell 0 rfl 4 (by rw[<-hv4];rfl);have q0:W5.cell? ⟨g,k*4,none⟩=some (.int .i64 p2.1.parent):=by have:=hcell 0 _ rfl;simpa using this
  have q1:W5.cell? ⟨g,k*4+1,none⟩=some (.slice (some ⟨gc,0,none⟩) n1 cc2):=by rw[N1.o,<-hpe,<-hv2];exact hcell 1 _ rfl
  have q2:W5.cell? ⟨g,k*4+2,none⟩=some (.bool p2.1.flag):=hcell 2 _ rfl;have q3:W5.cell? ⟨g,k*4+3,none⟩=some (.int .i64 p2.1.last):=hcell 3 _ rfl;have r0:W5.cell? ⟨gc,m,none⟩=some (.int .i64 y):=by have:=hcell2 0 _ rfl;simpa using this
  have RR:=zq r0;clear hp2 hpe hv hv2 hcell hcell2 hfree2 e4' hv4 r0
  go_upto_region 6 with (fail)
  have F6:=zq (FF.o.box 52 #[.int .i64 p2.1.parent,.slice (some ⟨gc,0,none⟩) n1 cc2,.bool p2.1.flag,.int .i64 p2.1.last]);obtain⟨W6,hW6⟩:=Zn (W5.alloc (.cells #[.int .i64 p2.1.parent,.slice (some ⟨gc,0,none⟩) n1 cc2,.bool p2.1.flag,.int .i64 p2.1.last] 52));obtain⟨b6,hb6⟩:=Zn W5.heap.size;have r0:W6.cell? ⟨gc,m,none⟩=some (.int .i64 y):=by rw[hW6];exact ((Mod.refl (fun _=>False) W5).alloc _).cell RR.o (fun h=>h)
  rw[<-hW6,<-hb6] at F6;have rf:W6.frozen? ⟨gc,m,none⟩=false:=by
   obtain⟨gc',_,e1,_,_,_,hf⟩:=(F6.o.own.aT p2 (List.mem_of_getElem? HPP.o.1)).slot iM (by decide) (by rw[HPP.o.2.1];exact HP.o.2.2:p2.1.aT[m]?=some y);rw[HPP.o.2.2.1] at e1;injection e1 with e1;injection e1 with e1;injection e1 with e1;rw[e1];exact hf m
  rw[<-hW6,<-hb6];clear hW6 hb6 y4 q0 q1 q2 q3;have z1:W6.cell? ⟨b6,1,none⟩=some (.slice (some ⟨gc,0,none⟩) n1 cc2):=F6.o.at_.cell 3 rfl 1 rfl
  go_upto_region 7 with (fail)
  have FT:=zq (show aO s=true from by
   have h1:=SE.o;unfold dQ at h1
   split at h1
   ·rename_i h2;injection h1 with h1 _;rw[<-h1];exact h2.2.2
   injection h1 with _ h1;cases h1)
  have F7:=zq (show dB w W0.heap.size ((b5, 31,V2.cells L)::[(b0, 31,C),(b0+1, 31,aZ),(b6, 52,#[.int .i64 p2.1.parent,.slice (some ⟨gc,0,none⟩) n1 cc2,.bool p2.1.flag,.int .i64 p2.1.last])]) { V2 with ac:=V2.ac.set k ({ p2.1 with aT:=p2.1.aT.set m s },p2.2) } { L with ai:=L.ai.set k { p2.1 with aT:=p2.1.aT.set m s } } (W6.setCell ⟨gc,m,none⟩ (.int .i64 s)) from by
   obtain⟨o1,m1⟩:=F6.o.own.di HPP.o.1 (g:=gc) (c:=cc2) HPP.o.2.2.1 (by rw[HPP.o.2.1];exact HP.o.2.2) (x:=s) (by have:=I64.bU FT.o;have h1:=this.1;have h2:=this.2;omega);exact F6.o.row o1 m1 (q:=k+8) (je HPP.o.1) (by rw[HPP.o.2.2.1];rfl) (by simp only[aB.rows];rw[jb (fun q:Acc×Value=>q.2) (x':=({ p2.1 with aT:=p2.1.aT.set m s },p2.2)) HPP.o.1 rfl]))
  obtain⟨W7,hW7⟩:=Zn (W6.setCell ⟨gc,m,none⟩ (.int .i64 s));rw[<-hW7] at F7 ⊢;clear hW7 r0 rf z1
  go_wp2_with (first|refine bW (F7.o.at_.get 0 rfl) L2.o rfl rfl rfl ?_|refine aW (F7.o.at_.get 2 rfl) bG L2.o rfl rfl rfl rfl ?_)
  refine bodyPost_ret (eF (q:=9) sW _ _ (b0+1) _ rfl (setRow_heap _ _ _ _ _ _ (F7.o.at_.get 2 rfl)) L2.o) rfl ⟨(F7.o.at_.setRow 2 rfl _).low,Or.inl ⟨rfl,{ V2 with ac:=V2.ac.set k ({ p2.1 with aT:=p2.1.aT.set m s },p2.2) },?_,?_⟩⟩
  ·first|rfl|simp[aB.val,aB.cells]
  have hlt:=X0.o.lt (b0+1, 31,aZ) (by simp);have o:=F7.o.own.mod (bJ (w:=W7) (b0+1) (V2.cells L)) (fun j hj _ e=>by subst e;simp at hlt;omega);rw[HPP.o.2.1] at o;exact (by rw[HPP.o.2.1];exact o:bF _ _ _ _).base X0.o.low.size
 have HZ:=zq hz;have hz':(er != 0)=true:=by rw[bne_iff_ne];exact hz
 clear hz
 go_wp2_with (first|refine bW (X0.o.get 0 rfl) LC.o rfl rfl rfl ?_|refine aW (X0.o.get 1 rfl) bG LC.o rfl rfl rfl rfl ?_)
 exact bodyPost_ret (eF (q:=9) sW _ _ (b0+1) _ rfl (setRow_heap _ _ _ _ _ _ (X0.o.get 1 rfl)) LC.o) rfl ⟨(X0.o.setRow 1 rfl _).low,Or.inr ⟨HZ.o,C,LC.o,by first|rfl|simp⟩⟩
theorem lI:Tryz.f37.results=#[.cell 10 31,.tmp 11]:=by kernel_rfl
theorem Dx (w:World) (V:aB) (L:aH) (h:bK w V L) (hG:L.gZ) (k m:Nat) (hk:k<L.ai.length) (hm:m<L.aQ.length) (x:Int) :
 Calls Tryz.prog 84 #[V.val L,.int .i64 (m:Int),.int .i64 x,.int .i64 (k:Int)] w (Ie w (L.di k m (dQ (L.aT k m) x).1) (dQ (L.aT k m) x).2):=by
 obtain⟨p,b,o,b2,o2,c,c2,A⟩:=h.lV (k:=k) (m:=m) hk (by rw[hG.iV hk];exact hm);have:=NY w V L h hG.Ba k m p A.acc (L.aT k m) (by rw[A.one];exact A.is) x;have e:L.di k m (dQ (L.aT k m) x).1={ L with ai:=L.ai.set k { p.1 with aT:=p.1.aT.set m (dQ (L.aT k m) x).1 } }:=by
  unfold aH.di;rw[A.one,Int.toNat_natCast,Int.toNat_natCast]
 rw[e];exact this
theorem Oe (w:World) (V:aB) (L:aH) (h:bK w V L) (hG:L.gZ) (c f t:Nat) (hc:c<L.aQ.length) (hf:f<L.ai.length) (ht:t<L.ai.length) (x:Int) (hx:I64 x) :
 Calls Tryz.prog 37 #[V.val L,.int .i64 (c:Int),.int .i64 x,.int .i64 (f:Int),.int .i64 (t:Int)] w (KJ w (fP L c x f t)):=by
 have LC:=zq (iC h);have hbl:=sN;have FI:=zq (fun W=>uO x W);obtain⟨FB,hFB⟩:=Zn (aO x);rw[<-hFB] at FI;have EF:=zq hFB;have HX:=zq hx;have GV:=zq (fun W (hb:Below w.heap.size w W)=>Dx W V L (h.below hb) hG f c hf hc (-x));obtain⟨P,hP⟩:=Zn (fP L c x f t);obtain⟨s1,e1,h1⟩:∃ s e,dQ (L.aT f c) (-x)=(s,e):=⟨_,_,rfl⟩;have PA:=zq (show (aO x=false->P=(aH.none,4))/\(aO x=true->(e1≠0->P=(aH.none,e1))/\(e1=0->∀ s2 e2,dQ ((L.di f c s1).aT t c) x=(s2,e2)->(e2≠0->P=(aH.none,e2))/\(e2=0->P=((L.di f c s1).di t c s2,0)))) from by
  rw[hP];unfold fP;refine⟨fun h=>by rw[uT (Or.inr h),if_neg (by decide)],fun hfx=>?_⟩;rw[D6 hfx,h1];refine⟨fun h=>by rw[if_neg h],fun h s2 e2 h2=>?_⟩;rw[if_pos h];simp only;rw[h2];exact⟨fun h=>by rw[if_neg h],fun h=>by rw[if_pos h]⟩)
 have G1:=zq (show e1=0->(L.di f c s1).gZ/\(L.di f c s1).ai.length=L.ai.length/\(L.di f c s1).aQ.length=L.aQ.length from fun h=>by
  have hs:aO s1=true:=by have:=uy (a:=L.aT f c) (b:=-x) (by rw[h1];exact h);rw[h1] at this;exact this
  have k:=oD L f c s1 ⟨by omega,by omega⟩ hs;exact⟨k.pJ hG,k.len,by rw[k.aQ]⟩)
 rw[h1] at GV;rw[<-hP];clear hP h1 hFB;obtain⟨n4,hn4⟩:=Zn L.ai.length;obtain⟨n1,hn1⟩:=Zn L.aQ.length;have N4:=zq hn4;have N1:=zq hn1;rw[<-hn1] at hc;rw[<-hn4] at hf ht;have HC:=zq (And.intro hc (And.intro hf ht));have U6:=zq (show n4<=16/\n1<=4 from ⟨by rw[hn4];exact (hG.Ba).2.2,by rw[hn1];exact hG.things.c1⟩);unfold aB.val at GV ⊢;obtain⟨C,hC⟩:=Zn (V.cells L);have EC:=zq hC;rw[<-hC] at GV LC ⊢;obtain⟨W0,hW0⟩:=Zn ((w.alloc (.cells C 31)).alloc (.cells #[.int .i64 0,.slice none 0 0,.slice none 0 0,.slice none 0 0,.slice none 0 0,.slice none 0 0,.slice none 0 0,.slice none 0 0,.slice none 0 0] 31));obtain⟨b0,hb0⟩:=Zn w.heap.size;have X0:=zq (show At w W0 [(b0, 31,C),(b0+1, 31,aZ)] from by
  have a:=((At.start w).alloc 31 C).alloc 31 #[.int .i64 0,.slice none 0 0,.slice none 0 0,.slice none 0 0,.slice none 0 0,.slice none 0 0,.slice none 0 0,.slice none 0 0,.slice none 0 0];have e:∀ (w:World) (o:Obj),(w.alloc o).heap.size=w.heap.size+1:=fun w o=>by simp
  simp only[e] at a
  rw[<-hW0,<-hb0] at a;exact a)
 have LW:=zq (h.below X0.o.low);obtain⟨p0,b,o,b2,o2,c4,c2,CA⟩:=LW.o.lV (k:=f) (m:=c) (by rw[<-hn4];exact hf) (by rw[hG.iV (by rw[<-hn4];exact hf),<-hn1];exact hc);obtain⟨p0',b',o',b2',o2',c4',c2',CB⟩:=LW.o.lV (k:=t) (m:=c) (by rw[<-hn4];exact ht) (by rw[hG.iV (by rw[<-hn4];exact ht),<-hn1];exact hc);obtain⟨rfl,rfl⟩:b'=b/\o'=o:=by
  have e:=CB.row;rw[CA.row] at e;injection e with e;injection e with e;injection e with e e3;exact⟨e.symm,e3.symm⟩
 have q1:W0.cell? ⟨b',o'+f*4+1,none⟩=some (.slice (some ⟨b2,o2,none⟩) n1 c2):=by have:=CA.OA;rw[hG.iV (by rw[<-hn4];exact hf),<-hn1] at this;exact this
 have q2:W0.cell? ⟨b',o'+t*4+1,none⟩=some (.slice (some ⟨b2',o2',none⟩) n1 c2'):=by have:=CB.OA;rw[hG.iV (by rw[<-hn4];exact ht),<-hn1] at this;exact this
 have y4:W0.cell? ⟨b0,4,none⟩=some (.slice (some ⟨b',o',none⟩) n4 c4):=X0.o.cell 0 rfl 4 (by rw[hC,hn4,<-CA.row];rfl);have k0:(0:Int)<=(f:Int):=by omega
 have k1:(f:Int)<(n4:Int):=by omega
 have k2:¬ (f:Int)<0:=by omega
 have k3:¬ (n4:Int)<=(f:Int):=by omega
 have t0:(0:Int)<=(t:Int):=by omega
 have t1:(t:Int)<(n4:Int):=by omega
 have t2:¬ (t:Int)<0:=by omega
 have t3:¬ (n4:Int)<=(t:Int):=by omega
 have m2:¬ (c:Int)<0:=by omega
 have m3:¬ (n1:Int)<=(c:Int):=by omega
 clear h hG hC hx hf ht hc hn4 hn1 CA CB LW
 go_enter Tryz.func37,Tryz.ntmps37
 go_upto_region 1 with (fail)
 rw[<-hW0,<-hb0];clear hW0 hb0
 go_wp2_with fail
 refine (FI.o _).mono ?_;rintro e w' ⟨rfl,rfl⟩;clear FI y4 q1 q2 k0 k1 k2 k3 t0 t1 t2 t3 m2 m3
 cases hFB:FB with
 | false =>
   subst hFB;have PZ:=zq (PA.o.1 EF.o.symm)
   go_wp2_with (refine aW (cs:=aZ) (X0.o.get 1 rfl) bG bG rfl rfl rfl rfl ?_)
   refine bodyPost_ret (eF (q:=11) lI _ _ (b0+1) _ rfl (setRow_heap _ _ _ _ _ _ (X0.o.get 1 rfl)) bG) rfl ⟨(X0.o.setRow 1 rfl _).low,Or.inr ⟨by rw[PZ.o];decide,by rw[PZ.o];rfl⟩⟩
 | true =>
   subst hFB;have PX:=zq (PA.o.2 EF.o.symm);have ng:IntKind.i64.wrap (-x)=-x:=by rw[IntKind.wrap_i64];have:=aF.1 EF.o.symm;omega
   clear PA
   go_wp2_with (refine bW (X0.o.get 0 rfl) LC.o rfl rfl rfl ?_)
   refine (GV.o W0 X0.o.low).mono ?_;rintro e w2 ⟨hb,ho⟩;have X2:=zq (X0.o.go hb);clear GV ng;rcases ho with ⟨hz,U,rfl,own⟩|⟨hz,C9,hC9,rfl⟩
   ·try simp only at hz
    obtain⟨L7,hL7⟩:∃ l:aH,l=L.di f c s1:=⟨_,rfl⟩;have GG:=zq (G1.o hz);have PB:=zq (PX.o.2 hz);rw[<-hL7] at own GG PB ⊢;subst hz;clear hL7 PX G1;have L2:=zq (iC own.led);have OW:=zq own;have BB:=zq hb;unfold aB.val;clear own hb
    try go_simp
    go_upto_region 12 with (refine aW (heap_alloc_last _ _) bG L2.o rfl rfl rfl rfl ?_;rw[World.setRow_alloc_new])
    obtain⟨W3,hW3⟩:=Zn (w2.alloc (.cells (U.cells L7) 31));obtain⟨b3,hb3⟩:=Zn w2.heap.size;have X3:=zq (show At w W3 [(b0, 31,C),(b0+1, 31,aZ),(b3, 31,U.cells L7)] from by rw[hW3,hb3];exact X2.o.alloc _ _);have O3:=zq (show bF W3 W0.heap.size U L7 from by rw[hW3];exact OW.o.below (Zb));have G2:=zq (Dx W3 U L7 O3.o.led GG.o.1 t c (by rw[GG.o.2.1,<-N4.o];exact HC.o.2.2) (by rw[GG.o.2.2,<-N1.o];exact HC.o.1) x);obtain⟨s2,e2,h2⟩:∃ s e,dQ (L7.aT t c) x=(s,e):=⟨_,_,rfl⟩;have PC:=zq (PB.o s2 e2 h2);rw[h2] at G2;unfold aB.val at G2;rw[<-hW3,<-hb3];clear hW3 hb3 h2 PB OW X2
    go_wp2_with (refine bW (X3.o.get 2 rfl) L2.o rfl rfl rfl ?_)
    refine G2.o.mono ?_;rintro e w4 ⟨hb,ho⟩;have X4:=zq (X3.o.go hb);clear G2;rcases ho with ⟨hz,U4,rfl,own⟩|⟨hz,C9,hC9,rfl⟩
    ·try simp only at hz
     have PD:=zq (PC.o.2 hz);subst hz;obtain⟨L8,hL8⟩:∃ l:aH,l=L7.di t c s2:=⟨_,rfl⟩;rw[<-hL8] at own PD ⊢;have L4:=zq (iC own.led);have O4:=zq own;unfold aB.val;clear own hb hL8
     try go_simp
     have X5:=zq (X4.o.setRow 2 rfl (U4.cells L8))
     go_wp2_with (first|refine bW (X5.o.get 2 rfl) L4.o rfl rfl rfl ?_|refine aW (X4.o.get 2 rfl) L2.o L4.o rfl rfl rfl rfl ?_|refine aW (X5.o.get 1 rfl) bG L4.o rfl rfl rfl rfl ?_)
     refine bodyPost_ret (eF (q:=11) lI _ _ (b0+1) _ rfl (setRow_heap _ _ _ _ _ _ (X5.o.get 1 rfl)) L4.o) rfl ⟨(X5.o.setRow 1 rfl _).low,Or.inl ⟨by rw[PD.o],U4,?_,?_⟩⟩
     ·rw[PD.o];rfl
     rw[PD.o];have h1:=X3.o.lt (b0+1, 31,aZ) (by simp);have h2:=X3.o.lt (b3, 31,U.cells L7) (by simp)
     simp only at h1 h2
     exact ((O4.o.mod (bJ (w:=w4) b3 _) (fun j hj _ e=>by omega)).mod (bJ (b0+1) _) (fun j hj _ e=>by omega)).base X3.o.low.size
    try simp only at hz
    have HZ:=zq hz;have PD:=zq (PC.o.1 hz);have hz':(e2 != 0)=true:=by rw[bne_iff_ne];exact hz
    have LC9:=zq hC9;clear hz hb hC9
    try go_simp
    have X5:=zq (X4.o.setRow 2 rfl C9)
    go_wp2_with (first|refine aW (X4.o.get 2 rfl) L2.o LC9.o rfl rfl rfl rfl ?_|refine aW (cs:=aZ) (X5.o.get 1 rfl) bG bG rfl rfl rfl rfl ?_)
    refine bodyPost_ret (eF (q:=11) lI _ _ (b0+1) _ rfl (setRow_heap _ _ _ _ _ _ (X5.o.get 1 rfl)) bG) rfl ⟨(X5.o.setRow 1 rfl _).low,Or.inr ⟨by rw[PD.o];exact HZ.o,by rw[PD.o];rfl⟩⟩
   try simp only at hz
   have HZ:=zq hz;have PC:=zq (PX.o.1 hz);have hz':(e1 != 0)=true:=by rw[bne_iff_ne];exact hz
   have LC9:=zq hC9;clear hz hb hC9
   try go_simp
   go_upto_region 12 with (refine aW (heap_alloc_last _ _) bG LC9.o rfl rfl rfl rfl ?_;rw[World.setRow_alloc_new])
   have X3:=zq (X2.o.alloc 31 C9);obtain⟨W3,hW3⟩:=Zn (w2.alloc (.cells C9 31));rw[<-hW3] at X3;rw[<-hW3];clear hW3
   go_wp2_with (refine aW (cs:=aZ) (X3.o.get 1 rfl) bG bG rfl rfl rfl rfl ?_)
   refine bodyPost_ret (eF (q:=11) lI _ _ (b0+1) _ rfl (setRow_heap _ _ _ _ _ _ (X3.o.get 1 rfl)) bG) rfl ⟨(X3.o.setRow 1 rfl _).low,Or.inr ⟨by rw[PC.o];exact HZ.o,by rw[PC.o];rfl⟩⟩
end Go.Proofs.YtcepekniflaoaaaGreatDoor
