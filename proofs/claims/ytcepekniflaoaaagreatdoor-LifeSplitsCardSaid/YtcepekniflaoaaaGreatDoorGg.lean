/- Joined: By, Rise, Book, Book2, Things, Accts, Loc, Good, Look. -/
import Derived.Test.YtcepekniflaoaaaGreatDoorGe
import Derived.Test.YtcepekniflaoaaaGreatDoorGa
import Derived.Test.YtcepekniflaoaaaGreatDoorGf
set_option linter.unusedVariables false
set_option linter.unusedSimpArgs false
set_option maxRecDepth 100000
set_option maxHeartbeats 8000000
namespace Go.Proofs.YtcepekniflaoaaaGreatDoor
open Go.RowKit Go.Bw Go.Maps Go.Shelf
def yD (a b c d:Int):Int:=if oG a b≠0 then oG a b else oG c d
theorem uD (a b c d:Int):yD a b c d<0↔a<b\/a=b/\c<d:=by
 unfold yD oG
 split <;> split <;> (try split) <;> omega
theorem Jf (w:World) (p q:Pos):Calls Tryz.prog 143 #[.agg #[.int .i64 p.ak,.int .i64 p.instr,.int .i64 p.qty],.agg #[.int .i64 q.ak,.int .i64 q.instr,.int .i64 q.qty]] w fun e w'=>e=.returned (.int .i64 (yD p.ak q.ak p.instr q.instr))/\Below w.heap.size w w':=by
 have BX:=zq (show ∃ W,W=(w.alloc (.cells #[.int .i64 p.ak,.int .i64 p.instr,.int .i64 p.qty] 50)).alloc (.cells #[.int .i64 q.ak,.int .i64 q.instr,.int .i64 q.qty] 50)/\Below w.heap.size w W/\W.heap[w.heap.size]?=some (.cells #[.int .i64 p.ak,.int .i64 p.instr,.int .i64 p.qty] 50 (0,0))/\W.heap[w.heap.size+1]?=some (.cells #[.int .i64 q.ak,.int .i64 q.instr,.int .i64 q.qty] 50 (0,0)) from
  ⟨_,rfl,(Zb).alloc (by simp) _,(Below.heap_alloc _ _ _ (by simp)).trans (heap_alloc_new w _),by have:=heap_alloc_new (w.alloc (.cells #[.int .i64 p.ak,.int .i64 p.instr,.int .i64 p.qty] 50)) (.cells #[.int .i64 q.ak,.int .i64 q.instr,.int .i64 q.qty] 50);simpa using this⟩)
 obtain⟨c1,hc1⟩:=Zn (oG p.ak q.ak);obtain⟨c2,hc2⟩:=Zn (oG p.instr q.instr);obtain⟨r,hr⟩:=Zn (yD p.ak q.ak p.instr q.instr);have RR:=zq (show r=(if c1≠0 then c1 else c2) from by rw[hr];unfold yD;rw[<-hc1,<-hc2]);have C12:=zq (And.intro hc1 hc2);rw[<-hr];clear hr hc1 hc2
 go_enter Tryz.func143,Tryz.ntmps143
 go_wp2_with fail
 obtain⟨W,hW,hb,h1,h2⟩:=BX.o;rw[<-hW];have BW:=zq hb;clear hW hb BX;have p0:=zq (show ∀ x:dh (Below W.heap.size W),x.w.cell? ⟨w.heap.size,0,none⟩=some (.int .i64 p.ak) from fun x=>cell_of_heap ((Mod.of_below x.ok).heap h1 (fun h=>h)) 0);have p1:=zq (show ∀ x:dh (Below W.heap.size W),x.w.cell? ⟨w.heap.size,1,none⟩=some (.int .i64 p.instr) from fun x=>cell_of_heap ((Mod.of_below x.ok).heap h1 (fun h=>h)) 1);have q0:=zq (show ∀ x:dh (Below W.heap.size W),x.w.cell? ⟨w.heap.size+1,0,none⟩=some (.int .i64 q.ak) from fun x=>cell_of_heap ((Mod.of_below x.ok).heap h2 (fun h=>h)) 0);have q1:=zq (show ∀ x:dh (Below W.heap.size W),x.w.cell? ⟨w.heap.size+1,1,none⟩=some (.int .i64 q.instr) from fun x=>cell_of_heap ((Mod.of_below x.ok).heap h2 (fun h=>h)) 1);have QC:=zq (show ∀ (a b:Int) (x:dh (Below W.heap.size W)),Calls Tryz.prog 171 #[.int .i64 a,.int .i64 b] x.w fun e w'=>e=.returned (.int .i64 (oG a b))/\∃ y:dh (Below W.heap.size W),w'=y.w from fun a b x =>
  (zV a b x.w).mono fun e w' h=>⟨h.1,x,h.2.symm⟩)
 clear h1 h2;refine iZ (C:=Below W.heap.size W) 10 (by kernel_rfl) (by kernel_rfl) ⟨rfl,rfl,rfl,Nat.le_refl _,fun _ _=>rfl⟩ (fun _=>?_)
 simp only[List.take_succ_cons,List.take_zero,List.drop_succ_cons,List.drop_zero]
 have fp0:=p0.o;have fp1:=p1.o;have fq0:=q0.o;have fq1:=q1.o
 repeat (go_big_quiet_step (exact QC.o _ _ _))
 refine wpQuiet_nil ?_;intro x;clear fp0 fp1 fq0 fq1;have BXX:=zq (BW.o.trans (x.ok.mono BW.o.size));rw[<-C12.o.1,<-C12.o.2];have OR:=zq (uF (x.w.alloc (.cells #[.int .i64 c1,.int .i64 c2] 3)) x.w.heap.size c1 c2 (by have:=cell_of_heap (heap_alloc_new x.w (.cells #[.int .i64 c1,.int .i64 c2] 3)) 0;exact this) (by have:=cell_of_heap (heap_alloc_new x.w (.cells #[.int .i64 c1,.int .i64 c2] 3)) 1;exact this));rw[<-RR.o] at OR
 go_wp2_with (go_at_call 170;refine OR.o.mono ?_;rintro e w' ⟨rfl,rfl⟩)
 go_ret;exact⟨rfl,BXX.o.alloc BXX.o.size _⟩
theorem Bc (w:World) (p q:Ord):Calls Tryz.prog 147 #[.agg #[.int .i64 p.ak,.int .i64 p.id,.int .i64 p.instr,.int .i64 p.qty,.int .i64 p.price],.agg #[.int .i64 q.ak,.int .i64 q.id,.int .i64 q.instr,.int .i64 q.qty,.int .i64 q.price]] w fun e w'=>e=.returned (.int .i64 (yD p.ak q.ak p.id q.id))/\Below w.heap.size w w':=by
 have BX:=zq (show ∃ W,W=(w.alloc (.cells #[.int .i64 p.ak,.int .i64 p.id,.int .i64 p.instr,.int .i64 p.qty,.int .i64 p.price] 74)).alloc (.cells #[.int .i64 q.ak,.int .i64 q.id,.int .i64 q.instr,.int .i64 q.qty,.int .i64 q.price] 74)/\Below w.heap.size w W/\W.heap[w.heap.size]?=some (.cells #[.int .i64 p.ak,.int .i64 p.id,.int .i64 p.instr,.int .i64 p.qty,.int .i64 p.price] 74 (0,0))/\W.heap[w.heap.size+1]?=some (.cells #[.int .i64 q.ak,.int .i64 q.id,.int .i64 q.instr,.int .i64 q.qty,.int .i64 q.price] 74 (0,0)) from
  ⟨_,rfl,(Zb).alloc (by simp) _,(Below.heap_alloc _ _ _ (by simp)).trans (heap_alloc_new w _),by have:=heap_alloc_new (w.alloc (.cells #[.int .i64 p.ak,.int .i64 p.id,.int .i64 p.instr,.int .i64 p.qty,.int .i64 p.price] 74)) (.cells #[.int .i64 q.ak,.int .i64 q.id,.int .i64 q.instr,.int .i64 q.qty,.int .i64 q.price] 74);simpa using this⟩)
 obtain⟨c1,hc1⟩:=Zn (oG p.ak q.ak);obtain⟨c2,hc2⟩:=Zn (oG p.id q.id);obtain⟨r,hr⟩:=Zn (yD p.ak q.ak p.id q.id);have RR:=zq (show r=(if c1≠0 then c1 else c2) from by rw[hr];unfold yD;rw[<-hc1,<-hc2]);have C12:=zq (And.intro hc1 hc2);rw[<-hr];clear hr hc1 hc2
 go_enter Tryz.func147,Tryz.ntmps147
 go_wp2_with fail
 obtain⟨W,hW,hb,h1,h2⟩:=BX.o;rw[<-hW];have BW:=zq hb;clear hW hb BX;have p0:=zq (show ∀ x:dh (Below W.heap.size W),x.w.cell? ⟨w.heap.size,0,none⟩=some (.int .i64 p.ak) from fun x=>cell_of_heap ((Mod.of_below x.ok).heap h1 (fun h=>h)) 0);have p1:=zq (show ∀ x:dh (Below W.heap.size W),x.w.cell? ⟨w.heap.size,1,none⟩=some (.int .i64 p.id) from fun x=>cell_of_heap ((Mod.of_below x.ok).heap h1 (fun h=>h)) 1);have q0:=zq (show ∀ x:dh (Below W.heap.size W),x.w.cell? ⟨w.heap.size+1,0,none⟩=some (.int .i64 q.ak) from fun x=>cell_of_heap ((Mod.of_below x.ok).heap h2 (fun h=>h)) 0);have q1:=zq (show ∀ x:dh (Below W.heap.size W),x.w.cell? ⟨w.heap.size+1,1,none⟩=some (.int .i64 q.id) from fun x=>cell_of_heap ((Mod.of_below x.ok).heap h2 (fun h=>h)) 1);have QC:=zq (show ∀ (a b:Int) (x:dh (Below W.heap.size W)),Calls Tryz.prog 171 #[.int .i64 a,.int .i64 b] x.w fun e w'=>e=.returned (.int .i64 (oG a b))/\∃ y:dh (Below W.heap.size W),w'=y.w from fun a b x =>
  (zV a b x.w).mono fun e w' h=>⟨h.1,x,h.2.symm⟩)
 clear h1 h2;refine iZ (C:=Below W.heap.size W) 10 (by kernel_rfl) (by kernel_rfl) ⟨rfl,rfl,rfl,Nat.le_refl _,fun _ _=>rfl⟩ (fun _=>?_)
 simp only[List.take_succ_cons,List.take_zero,List.drop_succ_cons,List.drop_zero]
 have fp0:=p0.o;have fp1:=p1.o;have fq0:=q0.o;have fq1:=q1.o
 repeat (go_big_quiet_step (exact QC.o _ _ _))
 refine wpQuiet_nil ?_;intro x;clear fp0 fp1 fq0 fq1;have BXX:=zq (BW.o.trans (x.ok.mono BW.o.size));rw[<-C12.o.1,<-C12.o.2];have OR:=zq (uF (x.w.alloc (.cells #[.int .i64 c1,.int .i64 c2] 3)) x.w.heap.size c1 c2 (by have:=cell_of_heap (heap_alloc_new x.w (.cells #[.int .i64 c1,.int .i64 c2] 3)) 0;exact this) (by have:=cell_of_heap (heap_alloc_new x.w (.cells #[.int .i64 c1,.int .i64 c2] 3)) 1;exact this));rw[<-RR.o] at OR
 go_wp2_with (go_at_call 170;refine OR.o.mono ?_;rintro e w' ⟨rfl,rfl⟩)
 go_ret;exact⟨rfl,BXX.o.alloc BXX.o.size _⟩
theorem Je (w:World) (p q:Pos):Calls Tryz.prog 149 #[.agg #[.int .i64 p.ak,.int .i64 p.instr,.int .i64 p.qty],.agg #[.int .i64 q.ak,.int .i64 q.instr,.int .i64 q.qty]] w fun e w'=>e=.returned (.int .i64 (yD p.ak q.ak p.instr q.instr))/\Below w.heap.size w w':=by
 have BX:=zq (show ∃ W,W=(w.alloc (.cells #[.int .i64 p.ak,.int .i64 p.instr,.int .i64 p.qty] 72)).alloc (.cells #[.int .i64 q.ak,.int .i64 q.instr,.int .i64 q.qty] 72)/\Below w.heap.size w W/\W.heap[w.heap.size]?=some (.cells #[.int .i64 p.ak,.int .i64 p.instr,.int .i64 p.qty] 72 (0,0))/\W.heap[w.heap.size+1]?=some (.cells #[.int .i64 q.ak,.int .i64 q.instr,.int .i64 q.qty] 72 (0,0)) from
  ⟨_,rfl,(Zb).alloc (by simp) _,(Below.heap_alloc _ _ _ (by simp)).trans (heap_alloc_new w _),by have:=heap_alloc_new (w.alloc (.cells #[.int .i64 p.ak,.int .i64 p.instr,.int .i64 p.qty] 72)) (.cells #[.int .i64 q.ak,.int .i64 q.instr,.int .i64 q.qty] 72);simpa using this⟩)
 obtain⟨c1,hc1⟩:=Zn (oG p.ak q.ak);obtain⟨c2,hc2⟩:=Zn (oG p.instr q.instr);obtain⟨r,hr⟩:=Zn (yD p.ak q.ak p.instr q.instr);have RR:=zq (show r=(if c1≠0 then c1 else c2) from by rw[hr];unfold yD;rw[<-hc1,<-hc2]);have C12:=zq (And.intro hc1 hc2);rw[<-hr];clear hr hc1 hc2
 go_enter Tryz.func149,Tryz.ntmps149
 go_wp2_with fail
 obtain⟨W,hW,hb,h1,h2⟩:=BX.o;rw[<-hW];have BW:=zq hb;clear hW hb BX;have p0:=zq (show ∀ x:dh (Below W.heap.size W),x.w.cell? ⟨w.heap.size,0,none⟩=some (.int .i64 p.ak) from fun x=>cell_of_heap ((Mod.of_below x.ok).heap h1 (fun h=>h)) 0);have p1:=zq (show ∀ x:dh (Below W.heap.size W),x.w.cell? ⟨w.heap.size,1,none⟩=some (.int .i64 p.instr) from fun x=>cell_of_heap ((Mod.of_below x.ok).heap h1 (fun h=>h)) 1);have q0:=zq (show ∀ x:dh (Below W.heap.size W),x.w.cell? ⟨w.heap.size+1,0,none⟩=some (.int .i64 q.ak) from fun x=>cell_of_heap ((Mod.of_below x.ok).heap h2 (fun h=>h)) 0);have q1:=zq (show ∀ x:dh (Below W.heap.size W),x.w.cell? ⟨w.heap.size+1,1,none⟩=some (.int .i64 q.instr) from fun x=>cell_of_heap ((Mod.of_below x.ok).heap h2 (fun h=>h)) 1);have QC:=zq (show ∀ (a b:Int) (x:dh (Below W.heap.size W)),Calls Tryz.prog 171 #[.int .i64 a,.int .i64 b] x.w fun e w'=>e=.returned (.int .i64 (oG a b))/\∃ y:dh (Below W.heap.size W),w'=y.w from fun a b x =>
  (zV a b x.w).mono fun e w' h=>⟨h.1,x,h.2.symm⟩)
 clear h1 h2;refine iZ (C:=Below W.heap.size W) 10 (by kernel_rfl) (by kernel_rfl) ⟨rfl,rfl,rfl,Nat.le_refl _,fun _ _=>rfl⟩ (fun _=>?_)
 simp only[List.take_succ_cons,List.take_zero,List.drop_succ_cons,List.drop_zero]
 have fp0:=p0.o;have fp1:=p1.o;have fq0:=q0.o;have fq1:=q1.o
 repeat (go_big_quiet_step (exact QC.o _ _ _))
 refine wpQuiet_nil ?_;intro x;clear fp0 fp1 fq0 fq1;have BXX:=zq (BW.o.trans (x.ok.mono BW.o.size));rw[<-C12.o.1,<-C12.o.2];have OR:=zq (uF (x.w.alloc (.cells #[.int .i64 c1,.int .i64 c2] 3)) x.w.heap.size c1 c2 (by have:=cell_of_heap (heap_alloc_new x.w (.cells #[.int .i64 c1,.int .i64 c2] 3)) 0;exact this) (by have:=cell_of_heap (heap_alloc_new x.w (.cells #[.int .i64 c1,.int .i64 c2] 3)) 1;exact this));rw[<-RR.o] at OR
 go_wp2_with (go_at_call 170;refine OR.o.mono ?_;rintro e w' ⟨rfl,rfl⟩)
 go_ret;exact⟨rfl,BXX.o.alloc BXX.o.size _⟩
theorem vV (l:List Pos):iK Pos.Lt l↔∀ (i:Nat) (a b:Pos),l[i]?=some a->l[i+1]?=some b->yD a.ak b.ak a.instr b.instr<0 :=
 ⟨fun h i a b ha hb=>(uD _ _ _ _).2 (h i a b ha hb),fun h i a b ha hb=>(uD _ _ _ _).1 (h i a b ha hb)⟩
open Classical in
theorem DC (w:World) (v:Value) (l:List Pos) (hR:RowOf w 3 Pos.cells v l) :
 Calls Tryz.prog 142 #[v,.func (.func 143) #[] #[]] w fun e w'=>e=.returned (.bool (decide (iK Pos.Lt l)))/\Below w.heap.size w w':=by
 obtain⟨a,c,rfl⟩:=hR.form;have hl:l.length<=9223372036854775807:=by have:=hR.caps;unfold maxLen at this;omega
 obtain⟨R,hRr⟩:=Zn (decide (iK Pos.Lt l));rw[<-hRr];have EQ:=zq hRr;have HR:=zq hR;have eg:Enters Tryz.prog 143:=enters_of Tryz.func143 (by kernel_rfl) rfl;have EG:=zq eg;clear hR hRr eg
 go_enter Tryz.func142,Tryz.ntmps142
 go_wp2_with fail
 go_loopw [5] (fun i wr=>∃ k:Nat,1<=k/\i=.int .i64 k/\Hid (∀ (j:Nat) x y,j+1<k->l[j]?=some x->l[j+1]?=some y->yD x.ak y.ak x.instr y.instr<0)/\Below w.heap.size w wr) (fun i _=>l.length+1 - (intOf i).toNat)
 case atStart=>exact⟨1,Nat.le_refl _,rfl,zq (fun j x y hj=>by omega),Below.refl _ _⟩
 obtain⟨k,hk,rfl,INV,hb⟩:=hrel;have BW:=zq hb;clear hb;by_cases hlt:k<l.length
 ·obtain⟨k,rfl⟩:∃ j,k=j+1:=⟨k - 1,by omega⟩;obtain⟨x,hx⟩:∃ x,l[k]?=some x:=⟨_,Zg (by omega)⟩;obtain⟨y,hy⟩:∃ x,l[k+1]?=some x:=⟨_,List.getElem?_eq_getElem hlt⟩;obtain⟨b,o,rfl,_,hxc⟩:=(HR.o.below BW.o).at_ hx;obtain⟨b',o',e',_,hyc⟩:=(HR.o.below BW.o).at_ hy
  cases e'
  have xc0:=hxc 0 (.int .i64 x.ak) rfl;have xc1:=hxc 1 (.int .i64 x.instr) rfl;have xc2:=hxc 2 (.int .i64 x.qty) rfl;rw[Nat.add_zero] at xc0;have yc0:=hyc 0 (.int .i64 y.ak) rfl;have yc1:=hyc 1 (.int .i64 y.instr) rfl;have yc2:=hyc 2 (.int .i64 y.qty) rfl;rw[Nat.add_zero] at yc0;have hlt':(((k+1:Nat):Nat):Int)<(l.length:Int):=by omega
  have i1:(0:Int)<=(k:Int):=by omega
  have i2:(k:Int)<(l.length:Int):=by omega
  have i3:(0:Int)<=((k+1:Nat):Int):=by omega
  have w1:IntKind.i64.wrap (((k+1:Nat):Int) - 1)=(k:Int):=by rw[show ((k+1:Nat):Int) - 1=(k:Int) from by omega];exact IntWalk.i64_in _ (by omega)
  have HX:=zq (And.intro hx hy);have SUMX:=zq hlt;have xq0:=zq (show ∀ z:dh (Below wr.heap.size wr),z.w.cell? _=some _ from fun z=>(Mod.of_below z.ok).cell xc0 (fun h=>h));have xq1:=zq (show ∀ z:dh (Below wr.heap.size wr),z.w.cell? _=some _ from fun z=>(Mod.of_below z.ok).cell xc1 (fun h=>h));have xq2:=zq (show ∀ z:dh (Below wr.heap.size wr),z.w.cell? _=some _ from fun z=>(Mod.of_below z.ok).cell xc2 (fun h=>h));have yq0:=zq (show ∀ z:dh (Below wr.heap.size wr),z.w.cell? _=some _ from fun z=>(Mod.of_below z.ok).cell yc0 (fun h=>h));have yq1:=zq (show ∀ z:dh (Below wr.heap.size wr),z.w.cell? _=some _ from fun z=>(Mod.of_below z.ok).cell yc1 (fun h=>h));have yq2:=zq (show ∀ z:dh (Below wr.heap.size wr),z.w.cell? _=some _ from fun z=>(Mod.of_below z.ok).cell yc2 (fun h=>h));have CALL:=zq (show ∀ z:dh (Below wr.heap.size wr),Calls Tryz.prog 143 #[.agg #[.int .i64 x.ak,.int .i64 x.instr,.int .i64 x.qty],.agg #[.int .i64 y.ak,.int .i64 y.instr,.int .i64 y.qty]] z.w fun e w'=>e=.returned (.int .i64 (yD x.ak y.ak x.instr y.instr))/\∃ u:dh (Below wr.heap.size wr),w'=u.w from fun z =>
   (Jf z.w x y).mono fun e w' h=>⟨h.1,⟨w',z.ok.trans (h.2.mono z.ok.size)⟩,rfl⟩)
  obtain⟨r,hr⟩:=Zn (yD x.ak y.ak x.instr y.instr);rw[<-hr] at CALL;have HRr:=zq hr;clear hx hy hxc hyc hr xc0 xc1 xc2 yc0 yc1 yc2;have two:r<0\/0<=r:=by omega
  rcases two with hneg|hneg
  ·have hge:¬ (0:Int)<=r:=by omega
   go_wp2_with fail
   refine dH (C:=Below wr.heap.size wr) (by kernel_rfl) (by kernel_rfl) ⟨rfl,rfl,rfl,Nat.le_refl _,fun _ _=>rfl⟩ (fun _=>?_);have eg:∀ (args:Array Value) (w:World),(callFunc 143 args).run Tryz.prog w=.ok (.enter 143 args) w:=EG.o;have gx0:=xq0.o;have gx1:=xq1.o;have gx2:=xq2.o;have gy0:=yq0.o;have gy1:=yq1.o;have gy2:=yq2.o
   repeat (go_big_quiet_step (exact CALL.o _))
   refine wpQuiet_nil ?_;intro w2 hC;clear eg gx0 gx1 gx2 gy0 gy1 gy2;have B2:=zq (BW.o.trans (hC.mono BW.o.size));clear hC
   go_wp2_with fail
   go_roundw
   case rel=>exact⟨k+1+1,by omega,by go_num,zq (fun j x' y' hj hx' hy'=>by
    by_cases e:j=k
    ·subst e;have h1:=HX.o.1;have h2:=HX.o.2;rw[hx'] at h1;rw[hy'] at h2;cases h1;cases h2;rw[<-HRr.o];exact hneg
    exact INV.o j x' y' (by omega) hx' hy'),B2.o⟩
   case measure=>have:=SUMX.o;simp[intOf];omega
  have FL:=zq (EQ.o.trans (Zf (fun h=>by
   have h1:=(vV l).1 h k x y HX.o.1 HX.o.2;rw[<-HRr.o] at h1;omega)))
  go_wp2_with fail
  refine dH (C:=Below wr.heap.size wr) (by kernel_rfl) (by kernel_rfl) ⟨rfl,rfl,rfl,Nat.le_refl _,fun _ _=>rfl⟩ (fun _=>?_);have eg:∀ (args:Array Value) (w:World),(callFunc 143 args).run Tryz.prog w=.ok (.enter 143 args) w:=EG.o;have gx0:=xq0.o;have gx1:=xq1.o;have gx2:=xq2.o;have gy0:=yq0.o;have gy1:=yq1.o;have gy2:=yq2.o
  repeat (go_big_quiet_step (exact CALL.o _))
  refine wpQuiet_nil ?_;intro w2 hC;clear eg gx0 gx1 gx2 gy0 gy1 gy2;have B2:=zq (BW.o.trans (hC.mono BW.o.size));clear hC
  go_wp2_with fail
  go_ret;exact⟨aj FL.o.symm,B2.o⟩
 have hlt':¬ (k:Int)<(l.length:Int):=by omega
 have FL:=zq (EQ.o.trans (decide_eq_true ((vV l).2 (fun j x' y' hx' hy'=>INV.o j x' y' (by have:=(List.getElem?_eq_some_iff.1 hy').1;omega) hx' hy'))))
 go_wp2_with fail
 go_ret;exact⟨aj FL.o.symm,BW.o⟩
theorem vU (l:List Ord):iK Ord.Lt l↔∀ (i:Nat) (a b:Ord),l[i]?=some a->l[i+1]?=some b->yD a.ak b.ak a.id b.id<0 :=
 ⟨fun h i a b ha hb=>(uD _ _ _ _).2 (h i a b ha hb),fun h i a b ha hb=>(uD _ _ _ _).1 (h i a b ha hb)⟩
open Classical in
theorem Dz (w:World) (v:Value) (l:List Ord) (hR:RowOf w 5 Ord.cells v l) :
 Calls Tryz.prog 146 #[v,.func (.func 147) #[] #[]] w fun e w'=>e=.returned (.bool (decide (iK Ord.Lt l)))/\Below w.heap.size w w':=by
 obtain⟨a,c,rfl⟩:=hR.form;have hl:l.length<=9223372036854775807:=by have:=hR.caps;unfold maxLen at this;omega
 obtain⟨R,hRr⟩:=Zn (decide (iK Ord.Lt l));rw[<-hRr];have EQ:=zq hRr;have HR:=zq hR;have eg:Enters Tryz.prog 147:=enters_of Tryz.func147 (by kernel_rfl) rfl;have EG:=zq eg;clear hR hRr eg
 go_enter Tryz.func146,Tryz.ntmps146
 go_wp2_with fail
 go_loopw [5] (fun i wr=>∃ k:Nat,1<=k/\i=.int .i64 k/\Hid (∀ (j:Nat) x y,j+1<k->l[j]?=some x->l[j+1]?=some y->yD x.ak y.ak x.id y.id<0)/\Below w.heap.size w wr) (fun i _=>l.length+1 - (intOf i).toNat)
 case atStart=>exact⟨1,Nat.le_refl _,rfl,zq (fun j x y hj=>by omega),Below.refl _ _⟩
 obtain⟨k,hk,rfl,INV,hb⟩:=hrel;have BW:=zq hb;clear hb;by_cases hlt:k<l.length
 ·obtain⟨k,rfl⟩:∃ j,k=j+1:=⟨k - 1,by omega⟩;obtain⟨x,hx⟩:∃ x,l[k]?=some x:=⟨_,Zg (by omega)⟩;obtain⟨y,hy⟩:∃ x,l[k+1]?=some x:=⟨_,List.getElem?_eq_getElem hlt⟩;obtain⟨b,o,rfl,_,hxc⟩:=(HR.o.below BW.o).at_ hx;obtain⟨b',o',e',_,hyc⟩:=(HR.o.below BW.o).at_ hy
  cases e'
  have xc0:=hxc 0 (.int .i64 x.ak) rfl;have xc1:=hxc 1 (.int .i64 x.id) rfl;have xc2:=hxc 2 (.int .i64 x.instr) rfl;have xc3:=hxc 3 (.int .i64 x.qty) rfl;have xc4:=hxc 4 (.int .i64 x.price) rfl;rw[Nat.add_zero] at xc0;have yc0:=hyc 0 (.int .i64 y.ak) rfl;have yc1:=hyc 1 (.int .i64 y.id) rfl;have yc2:=hyc 2 (.int .i64 y.instr) rfl;have yc3:=hyc 3 (.int .i64 y.qty) rfl;have yc4:=hyc 4 (.int .i64 y.price) rfl;rw[Nat.add_zero] at yc0;have hlt':(((k+1:Nat):Nat):Int)<(l.length:Int):=by omega
  have i1:(0:Int)<=(k:Int):=by omega
  have i2:(k:Int)<(l.length:Int):=by omega
  have i3:(0:Int)<=((k+1:Nat):Int):=by omega
  have w1:IntKind.i64.wrap (((k+1:Nat):Int) - 1)=(k:Int):=by rw[show ((k+1:Nat):Int) - 1=(k:Int) from by omega];exact IntWalk.i64_in _ (by omega)
  have HX:=zq (And.intro hx hy);have SUMX:=zq hlt;have xq0:=zq (show ∀ z:dh (Below wr.heap.size wr),z.w.cell? _=some _ from fun z=>(Mod.of_below z.ok).cell xc0 (fun h=>h));have xq1:=zq (show ∀ z:dh (Below wr.heap.size wr),z.w.cell? _=some _ from fun z=>(Mod.of_below z.ok).cell xc1 (fun h=>h));have xq2:=zq (show ∀ z:dh (Below wr.heap.size wr),z.w.cell? _=some _ from fun z=>(Mod.of_below z.ok).cell xc2 (fun h=>h));have xq3:=zq (show ∀ z:dh (Below wr.heap.size wr),z.w.cell? _=some _ from fun z=>(Mod.of_below z.ok).cell xc3 (fun h=>h));have xq4:=zq (show ∀ z:dh (Below wr.heap.size wr),z.w.cell? _=some _ from fun z=>(Mod.of_below z.ok).cell xc4 (fun h=>h));have yq0:=zq (show ∀ z:dh (Below wr.heap.size wr),z.w.cell? _=some _ from fun z=>(Mod.of_below z.ok).cell yc0 (fun h=>h));have yq1:=zq (show ∀ z:dh (Below wr.heap.size wr),z.w.cell? _=some _ from fun z=>(Mod.of_below z.ok).cell yc1 (fun h=>h));have yq2:=zq (show ∀ z:dh (Below wr.heap.size wr),z.w.cell? _=some _ from fun z=>(Mod.of_below z.ok).cell yc2 (fun h=>h));have yq3:=zq (show ∀ z:dh (Below wr.heap.size wr),z.w.cell? _=some _ from fun z=>(Mod.of_below z.ok).cell yc3 (fun h=>h));have yq4:=zq (show ∀ z:dh (Below wr.heap.size wr),z.w.cell? _=some _ from fun z=>(Mod.of_below z.ok).cell yc4 (fun h=>h));have CALL:=zq (show ∀ z:dh (Below wr.heap.size wr),Calls Tryz.prog 147 #[.agg #[.int .i64 x.ak,.int .i64 x.id,.int .i64 x.instr,.int .i64 x.qty,.int .i64 x.price],.agg #[.int .i64 y.ak,.int .i64 y.id,.int .i64 y.instr,.int .i64 y.qty,.int .i64 y.price]] z.w fun e w'=>e=.returned (.int .i64 (yD x.ak y.ak x.id y.id))/\∃ u:dh (Below wr.heap.size wr),w'=u.w from fun z =>
   (Bc z.w x y).mono fun e w' h=>⟨h.1,⟨w',z.ok.trans (h.2.mono z.ok.size)⟩,rfl⟩)
  obtain⟨r,hr⟩:=Zn (yD x.ak y.ak x.id y.id);rw[<-hr] at CALL;have HRr:=zq hr;clear hx hy hxc hyc hr xc0 xc1 xc2 xc3 xc4 yc0 yc1 yc2 yc3 yc4;have two:r<0\/0<=r:=by omega
  rcases two with hneg|hneg
  ·have hge:¬ (0:Int)<=r:=by omega
   go_wp2_with fail
   refine dH (C:=Below wr.heap.size wr) (by kernel_rfl) (by kernel_rfl) ⟨rfl,rfl,rfl,Nat.le_refl _,fun _ _=>rfl⟩ (fun _=>?_);have eg:∀ (args:Array Value) (w:World),(callFunc 147 args).run Tryz.prog w=.ok (.enter 147 args) w:=EG.o;have gx0:=xq0.o;have gx1:=xq1.o;have gx2:=xq2.o;have gx3:=xq3.o;have gx4:=xq4.o;have gy0:=yq0.o;have gy1:=yq1.o;have gy2:=yq2.o;have gy3:=yq3.o;have gy4:=yq4.o
   repeat (go_big_quiet_step (exact CALL.o _))
   refine wpQuiet_nil ?_;intro w2 hC;clear eg gx0 gx1 gx2 gx3 gx4 gy0 gy1 gy2 gy3 gy4;have B2:=zq (BW.o.trans (hC.mono BW.o.size));clear hC
   go_wp2_with fail
   go_roundw
   case rel=>exact⟨k+1+1,by omega,by go_num,zq (fun j x' y' hj hx' hy'=>by
    by_cases e:j=k
    ·subst e;have h1:=HX.o.1;have h2:=HX.o.2;rw[hx'] at h1;rw[hy'] at h2;cases h1;cases h2;rw[<-HRr.o];exact hneg
    exact INV.o j x' y' (by omega) hx' hy'),B2.o⟩
   case measure=>have:=SUMX.o;simp[intOf];omega
  have FL:=zq (EQ.o.trans (Zf (fun h=>by
   have h1:=(vU l).1 h k x y HX.o.1 HX.o.2;rw[<-HRr.o] at h1;omega)))
  go_wp2_with fail
  refine dH (C:=Below wr.heap.size wr) (by kernel_rfl) (by kernel_rfl) ⟨rfl,rfl,rfl,Nat.le_refl _,fun _ _=>rfl⟩ (fun _=>?_);have eg:∀ (args:Array Value) (w:World),(callFunc 147 args).run Tryz.prog w=.ok (.enter 147 args) w:=EG.o;have gx0:=xq0.o;have gx1:=xq1.o;have gx2:=xq2.o;have gx3:=xq3.o;have gx4:=xq4.o;have gy0:=yq0.o;have gy1:=yq1.o;have gy2:=yq2.o;have gy3:=yq3.o;have gy4:=yq4.o
  repeat (go_big_quiet_step (exact CALL.o _))
  refine wpQuiet_nil ?_;intro w2 hC;clear eg gx0 gx1 gx2 gx3 gx4 gy0 gy1 gy2 gy3 gy4;have B2:=zq (BW.o.trans (hC.mono BW.o.size));clear hC
  go_wp2_with fail
  go_ret;exact⟨aj FL.o.symm,B2.o⟩
 have hlt':¬ (k:Int)<(l.length:Int):=by omega
 have FL:=zq (EQ.o.trans (decide_eq_true ((vU l).2 (fun j x' y' hx' hy'=>INV.o j x' y' (by have:=(List.getElem?_eq_some_iff.1 hy').1;omega) hx' hy'))))
 go_wp2_with fail
 go_ret;exact⟨aj FL.o.symm,BW.o⟩
def Dp (q:Int):Bool:=decide (-1000000000<=q/\q<=1000000000)
def rY (q:Int):Bool:=decide (0<=q/\q<=1000000000)
theorem uf (q:Int) (w:World):Calls Tryz.prog 157 #[.int .i64 q] w fun e w'=>e=.returned (.bool (Dp q))/\w=w':=by
 obtain⟨r,hr⟩:=Zn (Dp q);rw[<-hr];have ch:¬ -1000000000<=q\/(-1000000000<=q/\¬ q<=1000000000)\/(-1000000000<=q/\q<=1000000000):=by omega
 rcases ch with h1|⟨h1,h2⟩|⟨h1,h2⟩
 all_goals
  first
  | (have R:=zq (show r=true from by rw[hr];exact decide_eq_true (by omega)))
  | (have R:=zq (show r=false from by rw[hr];exact Zf (by omega)))
  clear hr
  go_enter Tryz.func157,Tryz.ntmps157
  go_wp2_with fail
  go_ret;exact⟨aj (by first|(rw[R.o];done)|(rw[R.o,decide_eq_true_iff];omega)|(rw[R.o,decide_eq_false_iff_not];omega)),rfl⟩
theorem x9 (q:Int) (w:World):Calls Tryz.prog 158 #[.int .i64 q] w fun e w'=>e=.returned (.bool (rY q))/\w=w':=by
 obtain⟨r,hr⟩:=Zn (rY q);rw[<-hr];have ch:¬ 0<=q\/(0<=q/\¬ q<=1000000000)\/(0<=q/\q<=1000000000):=by omega
 rcases ch with h1|⟨h1,h2⟩|⟨h1,h2⟩
 all_goals
  first
  | (have R:=zq (show r=true from by rw[hr];exact decide_eq_true (by omega)))
  | (have R:=zq (show r=false from by rw[hr];exact Zf (by omega)))
  clear hr
  go_enter Tryz.func158,Tryz.ntmps158
  go_wp2_with fail
  go_ret;exact⟨aj (by first|(rw[R.o];done)|(rw[R.o,decide_eq_true_iff];omega)|(rw[R.o,decide_eq_false_iff_not];omega)),rfl⟩
structure rV (l:List Pos):Prop where
 all:∀ x∈l,Dp x.qty=true
 rise:iK Pos.Lt l
open Classical in
theorem Aq (w:World) (v:Value) (l:List Pos) (hR:RowOf w 3 Pos.cells v l) :
 Calls Tryz.prog 113 #[v] w fun e w'=>e=.returned (.bool (decide (rV l)))/\Below w.heap.size w w':=by
 obtain⟨a,c,rfl⟩:=hR.form;have hl:l.length<=9223372036854775807:=by have:=hR.caps;unfold maxLen at this;omega
 obtain⟨R,hRr⟩:=Zn (decide (rV l));rw[<-hRr];have EQ:=zq hRr;have HR:=zq hR;clear hR hRr
 go_enter Tryz.func113,Tryz.ntmps113
 go_wp2_with fail
 go_loopw [7] (fun i wr=>∃ k:Nat,k<=l.length/\i=.int .i64 k/\Hid ((∀ (j:Nat) x,j<k->l[j]?=some x->Dp x.qty=true)/\(∀ (j:Nat) x y,j+1<k->l[j]?=some x->l[j+1]?=some y->x.Lt y))/\Below w.heap.size w wr) (fun i _=>l.length - (intOf i).toNat)
 case atStart=>exact⟨0,Nat.zero_le _,rfl,zq ⟨fun j x hj=>by omega,fun j x y hj=>by omega⟩,Below.refl _ _⟩
 obtain⟨k,hk,rfl,INV,hb⟩:=hrel;have BW:=zq hb;have ROW:=zq (HR.o.below hb);clear hb;by_cases hlt:k<l.length
 ·obtain⟨x,hx⟩:∃ x,l[k]?=some x:=⟨_,List.getElem?_eq_getElem hlt⟩;obtain⟨b,o,rfl,hbl,hc⟩:=ROW.o.at_ hx;have c0:=hc 0 (.int .i64 x.ak) rfl;have c1:=hc 1 (.int .i64 x.instr) rfl;have c2:=hc 2 (.int .i64 x.qty) rfl;rw[Nat.add_zero] at c0;have hlt':(k:Int)<(l.length:Int):=by omega
  have i0:(0:Int)<=(k:Int):=by omega
  have HX:=zq hx;have LT:=zq hlt;have B2:=zq (BW.o.alloc BW.o.size (.cells #[.int .i64 x.ak,.int .i64 x.instr,.int .i64 x.qty] 50))
  cases hq:Dp x.qty with
  | false =>
    have FL:=zq (EQ.o.trans (Zf (fun h=>by have:=h.all x (List.mem_of_getElem? HX.o);rw[hq] at this;cases this)));have Q:=zq (uf x.qty);rw[hq] at Q;clear hx hc hq
    go_wp2_with (go_at_call 157;refine (Q.o _).mono ?_;rintro e w' ⟨rfl,rfl⟩)
    go_ret;exact⟨aj FL.o.symm,B2.o⟩
  | true =>
  have Q:=zq (uf x.qty);rw[hq] at Q;have HQ:=zq hq;clear hq
  cases k with
  | zero =>
    clear hx hc
    simp only[Nat.zero_mul,Nat.add_zero] at c0 c1 c2
    go_wp2_with (go_at_call 157;refine (Q.o _).mono ?_;rintro e w' ⟨rfl,rfl⟩)
    go_quiet (fail)
    go_wp2_with fail
    go_roundw
    case rel=>exact⟨1,by have:=LT.o;omega,by go_num,zq ⟨fun j z hj hz=>by
     obtain rfl:j=0:=by omega
     have h1:=HX.o;rw[hz] at h1;cases h1;exact HQ.o,fun j y z hj=>by omega⟩,below_drewN B2.o _⟩
    case measure=>have:=LT.o;simp[intOf];omega
  | succ k =>
    obtain⟨y,hy⟩:∃ y,l[k]?=some y:=⟨_,Zg (by omega)⟩;obtain⟨b',o',e',hbl',hd⟩:=ROW.o.at_ hy
    cases e'
    have d0:=hd 0 (.int .i64 y.ak) rfl;have d1:=hd 1 (.int .i64 y.instr) rfl;rw[Nat.add_zero] at d0;have HY:=zq hy;have j1:(0:Int)<=(k:Int):=by omega
    have j2:(k:Int)<(l.length:Int):=by omega
    have w1:IntKind.i64.wrap (((k+1:Nat):Int) - 1)=(k:Int):=by rw[show ((k+1:Nat):Int) - 1=(k:Int) from by omega];exact IntWalk.i64_in _ (by omega)
    have g0:decide ((0:Int)<((k+1:Nat):Int))=true:=decide_eq_true (by omega);clear hx hc hy hd;have ch:(x.ak<y.ak)\/(¬ x.ak<y.ak/\y.ak=x.ak/\x.instr<=y.instr)\/(¬ x.ak<y.ak/\y.ak=x.ak/\¬ x.instr<=y.instr)\/(¬ x.ak<y.ak/\¬ y.ak=x.ak):=by omega
    have DEC:=zq (show ¬ y.Lt x->R=false from fun hn=>EQ.o.trans (Zf (fun h=>hn (h.rise k y x HY.o HX.o))));rcases ch with h1|⟨h1,h2,h3⟩|⟨h1,h2,h3⟩|⟨h1,h2⟩
    ·have FL:=zq (DEC.o (by unfold Pos.Lt;omega));have g1:decide (x.ak<y.ak)=true:=decide_eq_true h1
     go_wp2_with (go_at_call 157;refine (Q.o _).mono ?_;rintro e w' ⟨rfl,rfl⟩)
     go_quiet (fail)
     go_wp2_with fail
     go_ret;exact⟨aj FL.o.symm,below_drewN B2.o _⟩
    ·have FL:=zq (DEC.o (by unfold Pos.Lt;omega));have g1:decide (x.ak<y.ak)=false:=decide_eq_false h1;have g2:(y.ak==x.ak)=true:=by simp[h2]
     clear h2
     go_wp2_with (go_at_call 157;refine (Q.o _).mono ?_;rintro e w' ⟨rfl,rfl⟩)
     go_quiet (fail)
     go_wp2_with fail
     go_ret;exact⟨aj FL.o.symm,below_drewN B2.o _⟩
    all_goals
     have LTT:=zq (show y.Lt x from by unfold Pos.Lt;omega);have g1:decide (x.ak<y.ak)=false:=decide_eq_false h1
     first
     | (have g2:(y.ak==x.ak)=true:=by simp[h2])
     | (have g2:(y.ak==x.ak)=false:=by simp[h2])
     clear h2
     go_wp2_with (go_at_call 157;refine (Q.o _).mono ?_;rintro e w' ⟨rfl,rfl⟩)
     go_quiet (fail)
     go_wp2_with fail
     go_roundw
     case rel=>exact⟨k+1+1,by have:=LT.o;omega,by go_num,zq ⟨fun j z hj hz=>by
      by_cases e:j=k+1
      ·subst e;have h1:=HX.o;rw[hz] at h1;cases h1;exact HQ.o
      ·exact INV.o.1 j z (by omega) hz,fun j z z' hj hz hz'=>by
      by_cases e:j=k
      ·subst e;have h1:=HY.o;rw[hz] at h1;cases h1;have h2:=HX.o;rw[hz'] at h2;cases h2;exact LTT.o
      exact INV.o.2 j z z' (by omega) hz hz'⟩,below_drewN B2.o _⟩
     case measure=>have:=LT.o;simp[intOf];omega
 have hlt':¬ (k:Int)<(l.length:Int):=by omega
 have FL:=zq (EQ.o.trans (decide_eq_true ⟨fun x hx=>by
  obtain⟨j,hj,e⟩:=List.mem_iff_getElem.1 hx;exact INV.o.1 j x (by omega) (by rw[<-e];exact List.getElem?_eq_getElem hj),fun j x y hx hy=>INV.o.2 j x y (by have:=(List.getElem?_eq_some_iff.1 hy).1;omega) hx hy⟩))
 go_wp2_with fail
 go_ret;exact⟨aj FL.o.symm,BW.o⟩
structure rU (l:List Ord):Prop where
 all:∀ x∈l,Dp x.qty=true
 rise:iK Ord.Lt l
open Classical in
theorem Ap (w:World) (v:Value) (l:List Ord) (hR:RowOf w 5 Ord.cells v l) :
 Calls Tryz.prog 114 #[v] w fun e w'=>e=.returned (.bool (decide (rU l)))/\Below w.heap.size w w':=by
 obtain⟨a,c,rfl⟩:=hR.form;have hl:l.length<=9223372036854775807:=by have:=hR.caps;unfold maxLen at this;omega
 obtain⟨R,hRr⟩:=Zn (decide (rU l));rw[<-hRr];have EQ:=zq hRr;have HR:=zq hR;clear hR hRr
 go_enter Tryz.func114,Tryz.ntmps114
 go_wp2_with fail
 go_loopw [7] (fun i wr=>∃ k:Nat,k<=l.length/\i=.int .i64 k/\Hid ((∀ (j:Nat) x,j<k->l[j]?=some x->Dp x.qty=true)/\(∀ (j:Nat) x y,j+1<k->l[j]?=some x->l[j+1]?=some y->x.Lt y))/\Below w.heap.size w wr) (fun i _=>l.length - (intOf i).toNat)
 case atStart=>exact⟨0,Nat.zero_le _,rfl,zq ⟨fun j x hj=>by omega,fun j x y hj=>by omega⟩,Below.refl _ _⟩
 obtain⟨k,hk,rfl,INV,hb⟩:=hrel;have BW:=zq hb;have ROW:=zq (HR.o.below hb);clear hb;by_cases hlt:k<l.length
 ·obtain⟨x,hx⟩:∃ x,l[k]?=some x:=⟨_,List.getElem?_eq_getElem hlt⟩;obtain⟨b,o,rfl,hbl,hc⟩:=ROW.o.at_ hx;have c0:=hc 0 (.int .i64 x.ak) rfl;have c1:=hc 1 (.int .i64 x.id) rfl;have c2:=hc 2 (.int .i64 x.instr) rfl;have c3:=hc 3 (.int .i64 x.qty) rfl;have c4:=hc 4 (.int .i64 x.price) rfl;rw[Nat.add_zero] at c0;have hlt':(k:Int)<(l.length:Int):=by omega
  have i0:(0:Int)<=(k:Int):=by omega
  have HX:=zq hx;have LT:=zq hlt;have B2:=zq (BW.o.alloc BW.o.size (.cells #[.int .i64 x.ak,.int .i64 x.id,.int .i64 x.instr,.int .i64 x.qty,.int .i64 x.price] 74))
  cases hq:Dp x.qty with
  | false =>
    have FL:=zq (EQ.o.trans (Zf (fun h=>by have:=h.all x (List.mem_of_getElem? HX.o);rw[hq] at this;cases this)));have Q:=zq (uf x.qty);rw[hq] at Q;clear hx hc hq
    go_wp2_with (go_at_call 157;refine (Q.o _).mono ?_;rintro e w' ⟨rfl,rfl⟩)
    go_ret;exact⟨aj FL.o.symm,B2.o⟩
  | true =>
  have Q:=zq (uf x.qty);rw[hq] at Q;have HQ:=zq hq;clear hq
  cases k with
  | zero =>
    clear hx hc
    simp only[Nat.zero_mul,Nat.add_zero] at c0 c1 c2 c3 c4
    go_wp2_with (go_at_call 157;refine (Q.o _).mono ?_;rintro e w' ⟨rfl,rfl⟩)
    go_quiet (fail)
    go_wp2_with fail
    go_roundw
    case rel=>exact⟨1,by have:=LT.o;omega,by go_num,zq ⟨fun j z hj hz=>by
     obtain rfl:j=0:=by omega
     have h1:=HX.o;rw[hz] at h1;cases h1;exact HQ.o,fun j y z hj=>by omega⟩,below_drewN B2.o _⟩
    case measure=>have:=LT.o;simp[intOf];omega
  | succ k =>
    obtain⟨y,hy⟩:∃ y,l[k]?=some y:=⟨_,Zg (by omega)⟩;obtain⟨b',o',e',hbl',hd⟩:=ROW.o.at_ hy
    cases e'
    have d0:=hd 0 (.int .i64 y.ak) rfl;have d1:=hd 1 (.int .i64 y.id) rfl;rw[Nat.add_zero] at d0;have HY:=zq hy;have j1:(0:Int)<=(k:Int):=by omega
    have j2:(k:Int)<(l.length:Int):=by omega
    have w1:IntKind.i64.wrap (((k+1:Nat):Int) - 1)=(k:Int):=by rw[show ((k+1:Nat):Int) - 1=(k:Int) from by omega];exact IntWalk.i64_in _ (by omega)
    have g0:decide ((0:Int)<((k+1:Nat):Int))=true:=decide_eq_true (by omega);clear hx hc hy hd;have ch:(x.ak<y.ak)\/(¬ x.ak<y.ak/\y.ak=x.ak/\x.id<=y.id)\/(¬ x.ak<y.ak/\y.ak=x.ak/\¬ x.id<=y.id)\/(¬ x.ak<y.ak/\¬ y.ak=x.ak):=by omega
    have DEC:=zq (show ¬ y.Lt x->R=false from fun hn=>EQ.o.trans (Zf (fun h=>hn (h.rise k y x HY.o HX.o))));rcases ch with h1|⟨h1,h2,h3⟩|⟨h1,h2,h3⟩|⟨h1,h2⟩
    ·have FL:=zq (DEC.o (by unfold Ord.Lt;omega));have g1:decide (x.ak<y.ak)=true:=decide_eq_true h1
     go_wp2_with (go_at_call 157;refine (Q.o _).mono ?_;rintro e w' ⟨rfl,rfl⟩)
     go_quiet (fail)
     go_wp2_with fail
     go_ret;exact⟨aj FL.o.symm,below_drewN B2.o _⟩
    ·have FL:=zq (DEC.o (by unfold Ord.Lt;omega));have g1:decide (x.ak<y.ak)=false:=decide_eq_false h1;have g2:(y.ak==x.ak)=true:=by simp[h2]
     clear h2
     go_wp2_with (go_at_call 157;refine (Q.o _).mono ?_;rintro e w' ⟨rfl,rfl⟩)
     go_quiet (fail)
     go_wp2_with fail
     go_ret;exact⟨aj FL.o.symm,below_drewN B2.o _⟩
    all_goals
     have LTT:=zq (show y.Lt x from by unfold Ord.Lt;omega);have g1:decide (x.ak<y.ak)=false:=decide_eq_false h1
     first
     | (have g2:(y.ak==x.ak)=true:=by simp[h2])
     | (have g2:(y.ak==x.ak)=false:=by simp[h2])
     clear h2
     go_wp2_with (go_at_call 157;refine (Q.o _).mono ?_;rintro e w' ⟨rfl,rfl⟩)
     go_quiet (fail)
     go_wp2_with fail
     go_roundw
     case rel=>exact⟨k+1+1,by have:=LT.o;omega,by go_num,zq ⟨fun j z hj hz=>by
      by_cases e:j=k+1
      ·subst e;have h1:=HX.o;rw[hz] at h1;cases h1;exact HQ.o
      ·exact INV.o.1 j z (by omega) hz,fun j z z' hj hz hz'=>by
      by_cases e:j=k
      ·subst e;have h1:=HY.o;rw[hz] at h1;cases h1;have h2:=HX.o;rw[hz'] at h2;cases h2;exact LTT.o
      exact INV.o.2 j z z' (by omega) hz hz'⟩,below_drewN B2.o _⟩
     case measure=>have:=LT.o;simp[intOf];omega
 have hlt':¬ (k:Int)<(l.length:Int):=by omega
 have FL:=zq (EQ.o.trans (decide_eq_true ⟨fun x hx=>by
  obtain⟨j,hj,e⟩:=List.mem_iff_getElem.1 hx;exact INV.o.1 j x (by omega) (by rw[<-e];exact List.getElem?_eq_getElem hj),fun j x y hx hy=>INV.o.2 j x y (by have:=(List.getElem?_eq_some_iff.1 hy).1;omega) hx hy⟩))
 go_wp2_with fail
 go_ret;exact⟨aj FL.o.symm,BW.o⟩
def Qb (a n:Int):Bool:=decide (1<a/\a<n)
def zY (q:Int):Bool:=decide (q≠0/\-1000000000<=q/\q<=1000000000)
theorem o8 (a n:Int) (w:World):Calls Tryz.prog 140 #[.int .i64 a,.int .i64 n] w fun e w'=>e=.returned (.bool (Qb a n))/\w=w':=by
 obtain⟨r,hr⟩:=Zn (Qb a n);rw[<-hr];have ch:¬ 1<a\/(1<a/\¬ a<n)\/(1<a/\a<n):=by omega
 rcases ch with h1|⟨h1,h2⟩|⟨h1,h2⟩
 all_goals
  first
  | (have R:=zq (show r=true from by rw[hr];exact decide_eq_true (by omega)))
  | (have R:=zq (show r=false from by rw[hr];exact Zf (by omega)))
  clear hr
  go_enter Tryz.func140,Tryz.ntmps140
  go_wp2_with fail
  go_ret;refine⟨aj ?_,rfl⟩
  first|(rw[R.o];done)|(rw[R.o,decide_eq_true_iff];omega)|(rw[R.o,decide_eq_false_iff_not];omega)|(rw[R.o];simp;done)|(rw[R.o];simp;omega)
theorem yT (q:Int) (w:World):Calls Tryz.prog 141 #[.int .i64 q] w fun e w'=>e=.returned (.bool (zY q))/\w=w':=by
 obtain⟨r,hr⟩:=Zn (zY q);rw[<-hr];have ch:(q=0/\q=0)\/(q≠0/\¬ -1000000000<=q)\/(q≠0/\-1000000000<=q/\¬ q<=1000000000)\/(q≠0/\-1000000000<=q/\q<=1000000000):=by omega
 rcases ch with ⟨h0,h1⟩|⟨h0,h1⟩|⟨h0,h1,h2⟩|⟨h0,h1,h2⟩
 all_goals
  first
  | (have R:=zq (show r=true from by rw[hr];exact decide_eq_true (by omega)))
  | (have R:=zq (show r=false from by rw[hr];exact Zf (by omega)))
  clear hr
  first
  | (have hb:(q != 0)=false:=by simp[h0])
  | (have hb:(q != 0)=true:=by simp[h0])
  have H0:=zq h0;clear h0
  go_enter Tryz.func141,Tryz.ntmps141
  go_wp2_with fail
  go_ret;refine⟨aj ?_,rfl⟩
  first|(rw[R.o];done)|(rw[R.o,decide_eq_true_iff];omega)|(rw[R.o,decide_eq_false_iff_not];omega)|(rw[R.o];simp;done)|(rw[R.o];simp;have:=H0.o;omega)|(rw[R.o];have:=H0.o;simp_all;done)|trace_state
def Aj (p:Pos) (A I:Nat):Bool:=Qb p.ak A&&decide (0<=p.instr/\p.instr<I)&&zY p.qty
theorem Di (p:Pos) (A I:Nat):Aj p A I=true↔p.Ok A I:=by
 simp only[Aj,Qb,zY,Pos.Ok,Bool.and_eq_true,decide_eq_true_eq];omega
def wF (o:Ord) (A I:Nat):Bool:=Qb o.ak A&&decide (1<=o.id/\o.id<=1099511627776)&&decide (0<=o.instr/\o.instr<I)&&zY o.qty&&decide (1<=o.price/\o.price<=100000000000000)
theorem Dc (p:Ord) (A I:Nat):wF p A I=true↔p.Ok A I:=by
 simp only[wF,Qb,zY,Ord.Ok,Bool.and_eq_true,decide_eq_true_eq];omega
theorem Dj (w:World) (p:Pos) (A I b4 b5:Nat) (h4:w.cell? ⟨b4,0,none⟩=some (.int .i64 A)) (h5:w.cell? ⟨b5,0,none⟩=some (.int .i64 I)) :
 Calls Tryz.prog 139 #[.agg #[.int .i64 p.ak,.int .i64 p.instr,.int .i64 p.qty],.pointer (some ⟨b4,0,none⟩),.pointer (some ⟨b5,0,none⟩)] w fun e w'=>e=.returned (.bool (!Aj p A I))/\Below w.heap.size w w':=by
 have l4:=World.block_lt_of_cell? w _ h4;have l5:=World.block_lt_of_cell? w _ h5;have M:=(Mod.refl (fun _=>False) w).alloc (.cells #[.int .i64 p.ak,.int .i64 p.instr,.int .i64 p.qty] 50);have c4:=M.cell h4 (fun h=>h);have c5:=M.cell h5 (fun h=>h);obtain⟨r,hr⟩:=Zn (Aj p A I);rw[<-hr]
 cases ht:Qb p.ak A with
 | false =>
   have R:=zq (show r=false from by rw[hr];simp[Aj,ht]);have T:=zq (o8 p.ak A);rw[ht] at T;clear hr ht h4 h5 M l4 l5
   go_enter Tryz.func139,Tryz.ntmps139
   go_wp2_with (go_at_call 140;refine (T.o _).mono ?_;rintro e w' ⟨rfl,rfl⟩)
   go_ret;exact⟨aj (by first|(rw[R.o];rfl)|(rw[R.o];simp;done)|(rw[R.o];simp;omega)),Zb⟩
 | true =>
 have T:=zq (o8 p.ak A);rw[ht] at T;by_cases hi:0<=p.instr/\p.instr<I
 ·have Q:=zq (yT p.qty);cases hq:zY p.qty
  all_goals
   rw[hq] at Q;have R:=zq ((show r=zY p.qty from by rw[hr];simp only[Aj,ht,decide_eq_true hi,Bool.true_and]).trans hq);have i1:¬ p.instr<0:=by omega
   have i2:¬ (I:Int)<=p.instr:=by omega
   clear hr ht hi hq h4 h5 M l4 l5
   go_enter Tryz.func139,Tryz.ntmps139
   go_wp2_with fail
   refine (T.o _).mono ?_;rintro e w' ⟨rfl,rfl⟩
   go_wp2_with (go_at_call 141;refine (Q.o _).mono ?_;rintro e w' ⟨rfl,rfl⟩)
   go_ret;exact⟨aj (by first|(rw[R.o];rfl)|(rw[R.o];simp;done)|(rw[R.o];simp;omega)),Zb⟩
 have R:=zq (show r=false from by rw[hr];simp only[Aj];rw[decide_eq_false hi];simp);have two:p.instr<0\/(¬ p.instr<0/\(I:Int)<=p.instr):=by omega
 clear hr ht hi h4 h5 M l4 l5;rcases two with i1|⟨i1,i2⟩
 all_goals
  go_enter Tryz.func139,Tryz.ntmps139
  go_wp2_with (go_at_call 140;refine (T.o _).mono ?_;rintro e w' ⟨rfl,rfl⟩)
  go_ret;exact⟨aj (by first|(rw[R.o];rfl)|(rw[R.o];simp;done)|(rw[R.o];simp;omega)),Zb⟩
theorem yJ (w:World) (p:Ord) (A I b4 b5:Nat) (h4:w.cell? ⟨b4,0,none⟩=some (.int .i64 A)) (h5:w.cell? ⟨b5,0,none⟩=some (.int .i64 I)) :
 Calls Tryz.prog 145 #[.agg #[.int .i64 p.ak,.int .i64 p.id,.int .i64 p.instr,.int .i64 p.qty,.int .i64 p.price],.pointer (some ⟨b4,0,none⟩),.pointer (some ⟨b5,0,none⟩)] w fun e w'=>e=.returned (.bool (!wF p A I))/\Below w.heap.size w w':=by
 have M:=(Mod.refl (fun _=>False) w).alloc (.cells #[.int .i64 p.ak,.int .i64 p.id,.int .i64 p.instr,.int .i64 p.qty,.int .i64 p.price] 74);have c4:=M.cell h4 (fun h=>h);have c5:=M.cell h5 (fun h=>h);obtain⟨r,hr⟩:=Zn (wF p A I);rw[<-hr]
 cases ht:Qb p.ak A with
 | false =>
   have R:=zq (show r=false from by rw[hr];simp[wF,ht]);have T:=zq (o8 p.ak A);rw[ht] at T;clear hr ht h4 h5 M
   go_enter Tryz.func145,Tryz.ntmps145
   go_wp2_with (go_at_call 140;refine (T.o _).mono ?_;rintro e w' ⟨rfl,rfl⟩)
   go_ret;exact⟨aj (by first|(rw[R.o];rfl)|(rw[R.o];simp;done)|(rw[R.o];simp;omega)),Zb⟩
 | true =>
 have T:=zq (o8 p.ak A);rw[ht] at T;by_cases hi:(1<=p.id/\p.id<=1099511627776)/\(0<=p.instr/\p.instr<I)
 ·have Q:=zq (yT p.qty);have i1:¬ p.id<1:=by omega
  have i2:¬ 1099511627776<p.id:=by omega
  have i3:¬ p.instr<0:=by omega
  have i4:¬ (I:Int)<=p.instr:=by omega
  cases hq:zY p.qty with
  | false =>
    rw[hq] at Q;have R:=zq (show r=false from by rw[hr];simp[wF,hq]);clear hr ht hi hq h4 h5 M
    go_enter Tryz.func145,Tryz.ntmps145
    go_wp2_with fail
    refine (T.o _).mono ?_;rintro e w' ⟨rfl,rfl⟩
    go_wp2_with (go_at_call 141;refine (Q.o _).mono ?_;rintro e w' ⟨rfl,rfl⟩)
    go_ret;exact⟨aj (by first|(rw[R.o];rfl)|(rw[R.o];simp;done)|(rw[R.o];simp;omega)),Zb⟩
  | true =>
    rw[hq] at Q;have three:p.price<1\/(¬ p.price<1/\100000000000000<p.price)\/(¬ p.price<1/\¬ 100000000000000<p.price):=by omega
    rcases three with g1|⟨g1,g2⟩|⟨g1,g2⟩
    all_goals
     first
     | (have R:=zq (show r=true from by rw[hr];simp only[wF,ht,hq,decide_eq_true hi.1,decide_eq_true hi.2,Bool.true_and,Bool.and_true];exact decide_eq_true (by omega)))
     | (have R:=zq (show r=false from by rw[hr];simp only[wF,ht,hq,decide_eq_true hi.1,decide_eq_true hi.2,Bool.true_and,Bool.and_true];exact Zf (by omega)))
     clear hr ht hi hq h4 h5 M
     go_enter Tryz.func145,Tryz.ntmps145
     go_wp2_with fail
     refine (T.o _).mono ?_;rintro e w' ⟨rfl,rfl⟩
     go_wp2_with (go_at_call 141;refine (Q.o _).mono ?_;rintro e w' ⟨rfl,rfl⟩)
     go_ret;exact⟨aj (by first|(rw[R.o];rfl)|(rw[R.o];simp;omega)),Zb⟩
 have R:=zq (show r=false from by
  rw[hr];by_cases h1:(1<=p.id/\p.id<=1099511627776)
  ·simp only[wF];rw[Zf (show ¬ (0<=p.instr/\p.instr<I) from fun h=>hi ⟨h1,h⟩)];simp
  simp only[wF];rw[decide_eq_false h1];simp)
 have ch:p.id<1\/(¬ p.id<1/\1099511627776<p.id)\/(¬ p.id<1/\¬ 1099511627776<p.id/\p.instr<0)\/(¬ p.id<1/\¬ 1099511627776<p.id/\¬ p.instr<0/\(I:Int)<=p.instr):=by omega
 clear hr ht hi h4 h5 M;rcases ch with i1|⟨i1,i2⟩|⟨i1,i2,i3⟩|⟨i1,i2,i3,i4⟩
 all_goals
  go_enter Tryz.func145,Tryz.ntmps145
  go_wp2_with (go_at_call 140;refine (T.o _).mono ?_;rintro e w' ⟨rfl,rfl⟩)
  go_ret;exact⟨aj (by first|(rw[R.o];rfl)|(rw[R.o];simp;done)|(rw[R.o];simp;omega)),Zb⟩
theorem sH {α:Type} (p:α->Bool) (l:List α):(l.any fun x=>!p x)=false↔∀ x∈l,p x=true:=by
 rw[List.any_eq_false]
 constructor
 ·intro h x hx;have:=h x hx;simpa using this
 intro h x hx;simp[h x hx]
theorem jP {α:Type} (p:α->Bool) (l:List α) (h:(l.any fun x=>!p x)=true):∃ x∈l,p x=false:=by
 obtain⟨x,hx,hp⟩:=List.any_eq_true.1 h;exact⟨x,hx,by simpa using hp⟩
open Classical in
theorem NS (w:World) (v:Value) (l:List Pos) (A I:Nat) (hR:RowOf w 3 Pos.cells v l) :
 Calls Tryz.prog 96 #[v,.int .i64 (A:Nat),.int .i64 (I:Nat)] w fun e w'=>e=.returned (.bool (decide (jB l A I)))/\Below w.heap.size w w':=by
 obtain⟨a,c,rfl⟩:=hR.form;obtain⟨R,hRr⟩:=Zn (decide (jB l A I));rw[<-hRr];have EQ:=zq hRr;have BX:=zq (show ∃ W,W=(w.alloc (.cells #[.int .i64 (A:Nat)] 3)).alloc (.cells #[.int .i64 (I:Nat)] 3)/\Below w.heap.size w W/\W.cell? ⟨w.heap.size,0,none⟩=some (.int .i64 (A:Nat))/\W.cell? ⟨w.heap.size+1,0,none⟩=some (.int .i64 (I:Nat))/\w.heap.size+1<W.heap.size from
  ⟨_,rfl,(Zb).alloc (by simp) _,cell_of_heap ((Below.heap_alloc _ _ _ (by simp)).trans (heap_alloc_new w _)) 0,by have:=cell_of_heap (heap_alloc_new (w.alloc (.cells #[.int .i64 (A:Nat)] 3)) (.cells #[.int .i64 (I:Nat)] 3)) 0;simp,by simp⟩)
 have HR:=zq hR;clear hR hRr;by_cases hlen:l.length<=64
 case neg =>
  have FL:=zq (EQ.o.trans (Zf (fun h=>hlen h.len)));have hlen':¬ (l.length:Int)<=64:=by omega
  clear hlen;obtain⟨W,hW,hb,_,_,_⟩:=BX.o;have BW:=zq (show Below w.heap.size w _ from hW▸hb);clear hW hb BX
  go_enter Tryz.func96,Tryz.ntmps96
  go_wp2_with fail
  go_ret;exact⟨aj FL.o.symm,BW.o⟩
 have hlen':(l.length:Int)<=64:=by omega
 have HL:=zq hlen;clear hlen
 go_enter Tryz.func96,Tryz.ntmps96
 go_wp2_with fail
 obtain⟨W,hW,hb,h4,h5,hs⟩:=BX.o;rw[<-hW];have BW:=zq hb;have H45:=zq (And.intro h4 h5);have ROW:=zq (HR.o.below hb);clear hW hb h4 h5 BX;refine (DC W _ l ROW.o).mono ?_;rintro e w2 ⟨rfl,hb2⟩;have B2:=zq (BW.o.trans (hb2.mono BW.o.size));have M2:=zq (Mod.of_below hb2);have ROW2:=zq (ROW.o.below hb2);clear hb2 hs;by_cases hri:iK Pos.Lt l
 case neg =>
  have FL:=zq (EQ.o.trans (Zf (fun h=>hri h.rise)));rw[decide_eq_false hri];clear hri
  go_wp2_with fail
  go_ret;exact⟨aj FL.o.symm,B2.o⟩
 rw[decide_eq_true hri];have HRI:=zq hri;clear hri;have CF:=zq (uG w2 _ l 139 #[.pointer (some ⟨w.heap.size,0,none⟩),.pointer (some ⟨w.heap.size+1,0,none⟩)] (fun p=>!Aj p A I) (enters_of Tryz.func139 (by kernel_rfl) rfl) ROW2.o (fun W' x hb' _ =>
  Dj W' x A I w.heap.size (w.heap.size+1) ((M2.o.trans (Mod.of_below hb') (fun _ _ h=>h)).cell H45.o.1 (fun h=>h)) ((M2.o.trans (Mod.of_below hb') (fun _ _ h=>h)).cell H45.o.2 (fun h=>h))))
 cases ha:(l.any fun p=>!Aj p A I) with
 | true =>
   rw[ha] at CF;have FL:=zq (EQ.o.trans (Zf (fun h=>by
    obtain⟨x,hx,hp⟩:=jP _ _ ha;rw[(Di x A I).2 (h.all x hx)] at hp;cases hp)))
   clear ha
   go_wp2_with fail
   refine CF.o.mono ?_;rintro e w3 ⟨rfl,hb3⟩;have B3:=zq (B2.o.trans (hb3.mono B2.o.size));clear hb3
   go_wp2_with fail
   go_ret;exact⟨aj FL.o.symm,B3.o⟩
 | false =>
   rw[ha] at CF;have FL:=zq (EQ.o.trans (decide_eq_true ⟨HL.o,fun x hx=>(Di x A I).1 ((sH _ _).1 ha x hx),HRI.o⟩));clear ha
   go_wp2_with fail
   refine CF.o.mono ?_;rintro e w3 ⟨rfl,hb3⟩;have B3:=zq (B2.o.trans (hb3.mono B2.o.size));clear hb3
   go_wp2_with fail
   go_ret;exact⟨aj FL.o.symm,B3.o⟩
open Classical in
theorem J8 (w:World) (v:Value) (l:List Pos) (A I:Nat) (hR:RowOf w 3 Pos.cells v l) :
 Calls Tryz.prog 78 #[v,.int .i64 (A:Nat),.int .i64 (I:Nat)] w fun e w'=>e=.returned (.bool (decide (jB l A I)))/\Below w.heap.size w w':=by
 obtain⟨a,c,rfl⟩:=hR.form;obtain⟨R,hRr⟩:=Zn (decide (jB l A I));rw[<-hRr];have EQ:=zq hRr;have HR:=zq hR;clear hR hRr;by_cases hlen:l.length<=64
 case neg =>
  have FL:=zq (EQ.o.trans (Zf (fun h=>hlen h.len)));have hlen':(64:Int)<(l.length:Int):=by omega
  clear hlen
  go_enter Tryz.func78,Tryz.ntmps78
  go_wp2_with fail
  go_ret;exact⟨aj FL.o.symm,Below.refl _ _⟩
 have hlen':¬ (64:Int)<(l.length:Int):=by omega
 have HL:=zq hlen;clear hlen
 go_enter Tryz.func78,Tryz.ntmps78
 go_wp2_with fail
 refine (Aq w _ l HR.o).mono ?_;rintro e w2 ⟨rfl,hb2⟩;have B2:=zq hb2;have ROW2:=zq (HR.o.below hb2);clear hb2;by_cases hri:rV l
 case neg =>
  have FL:=zq (EQ.o.trans (Zf (fun h=>hri ⟨fun x hx=>by have:=h.all x hx;unfold Pos.Ok at this;exact decide_eq_true (by omega),h.rise⟩)));rw[decide_eq_false hri];clear hri
  go_wp2_with fail
  go_ret;exact⟨aj FL.o.symm,B2.o⟩
 rw[decide_eq_true hri];have HRI:=zq hri;clear hri
 go_wp2_with fail
 go_loopw [19] (fun i wr=>∃ k:Nat,k<=l.length/\i=.int .i64 k/\Hid (∀ (j:Nat) x,j<k->l[j]?=some x->x.Ok A I)/\Below w.heap.size w wr) (fun i _=>l.length - (intOf i).toNat)
 case atStart=>exact⟨0,Nat.zero_le _,rfl,zq (fun j x hj=>by omega),B2.o⟩
 obtain⟨k,hk,rfl,INV,hb⟩:=hrel;have BW:=zq hb;have ROW:=zq (HR.o.below hb);clear hb;by_cases hlt:k<l.length
 ·obtain⟨x,hx⟩:∃ x,l[k]?=some x:=⟨_,List.getElem?_eq_getElem hlt⟩;obtain⟨b,o,rfl,hbl,hc⟩:=ROW.o.at_ hx;have c0:=hc 0 (.int .i64 x.ak) rfl;have c1:=hc 1 (.int .i64 x.instr) rfl;have c2:=hc 2 (.int .i64 x.qty) rfl;rw[Nat.add_zero] at c0;have hlt':(k:Int)<(l.length:Int):=by omega
  have HX:=zq hx;have LT:=zq hlt;have Q:=zq (HRI.o.all x (List.mem_of_getElem? hx));have BX2:=zq (BW.o.alloc BW.o.size (.cells #[.int .i64 x.ak,.int .i64 x.instr,.int .i64 x.qty] 50));have DEC:=zq (show ¬ x.Ok A I->R=false from fun hn=>EQ.o.trans (Zf (fun h=>hn (h.all x (List.mem_of_getElem? HX.o)))));have ch:(x.ak<2)\/(¬ (x.ak<2)/\(A:Int)<=x.ak)\/(¬ (x.ak<2)/\¬ ((A:Int)<=x.ak)/\x.instr<0)\/(¬ (x.ak<2)/\¬ ((A:Int)<=x.ak)/\¬ (x.instr<0)/\(I:Int)<=x.instr)\/(¬ (x.ak<2)/\¬ ((A:Int)<=x.ak)/\¬ (x.instr<0)/\¬ ((I:Int)<=x.instr)/\x.qty=0)\/(¬ (x.ak<2)/\¬ ((A:Int)<=x.ak)/\¬ (x.instr<0)/\¬ ((I:Int)<=x.instr)/\¬ (x.qty=0)):=by
   by_cases h0:x.ak<2
   ·exact Or.inl h0
   by_cases h1:(A:Int)<=x.ak
   ·exact Or.inr (Or.inl ⟨h0,h1⟩)
   by_cases h2:x.instr<0
   ·exact Or.inr (Or.inr (Or.inl ⟨h0,h1,h2⟩))
   by_cases h3:(I:Int)<=x.instr
   ·exact Or.inr (Or.inr (Or.inr (Or.inl ⟨h0,h1,h2,h3⟩)))
   by_cases h4:x.qty=0
   ·exact Or.inr (Or.inr (Or.inr (Or.inr (Or.inl ⟨h0,h1,h2,h3,h4⟩))))
   exact Or.inr (Or.inr (Or.inr (Or.inr (Or.inr ⟨h0,h1,h2,h3,h4⟩))))
  clear hx hc;rcases ch with h0|⟨h0,h1⟩|⟨h0,h1,h2⟩|⟨h0,h1,h2,h3⟩|⟨h0,h1,h2,h3,h4⟩|⟨h0,h1,h2,h3,h4⟩
  ·have FL:=zq (DEC.o (by unfold Pos.Ok;omega))
   go_wp2_with fail
   go_ret;exact⟨aj FL.o.symm,BX2.o⟩
  ·have FL:=zq (DEC.o (by unfold Pos.Ok;omega))
   go_wp2_with fail
   go_ret;exact⟨aj FL.o.symm,BX2.o⟩
  ·have FL:=zq (DEC.o (by unfold Pos.Ok;omega))
   go_wp2_with fail
   go_ret;exact⟨aj FL.o.symm,BX2.o⟩
  ·have FL:=zq (DEC.o (by unfold Pos.Ok;omega))
   go_wp2_with fail
   go_ret;exact⟨aj FL.o.symm,BX2.o⟩
  ·have FL:=zq (DEC.o (by unfold Pos.Ok;omega));have hbq:(x.qty==0)=true:=by simp[h4]
   clear h4
   go_wp2_with fail
   go_ret;exact⟨aj FL.o.symm,BX2.o⟩
  have YES:=zq (show x.Ok A I from by have:=of_decide_eq_true Q.o;unfold Pos.Ok;omega);have hbq:(x.qty==0)=false:=by simp[h4]
  clear h4
  go_wp2_with fail
  go_roundw
  case rel=>exact⟨k+1,by have:=LT.o;omega,by go_num,zq (fun j z hj hz=>by
   by_cases e:j=k
   ·subst e;have h1:=HX.o;rw[hz] at h1;cases h1;exact YES.o
   exact INV.o j z (by omega) hz),BX2.o⟩
  case measure=>have:=LT.o;simp[intOf];omega
 have hlt':¬ (k:Int)<(l.length:Int):=by omega
 have FL:=zq (EQ.o.trans (decide_eq_true ⟨HL.o,fun x hx=>by
  obtain⟨j,hj,e⟩:=List.mem_iff_getElem.1 hx;exact INV.o j x (by omega) (by rw[<-e];exact List.getElem?_eq_getElem hj),HRI.o.rise⟩))
 go_wp2_with fail
 go_ret;exact⟨aj FL.o.symm,BW.o⟩
open Classical in
theorem FO (w:World) (v:Value) (l:List Ord) (A I:Nat) (hR:RowOf w 5 Ord.cells v l) :
 Calls Tryz.prog 97 #[v,.int .i64 (A:Nat),.int .i64 (I:Nat)] w fun e w'=>e=.returned (.bool (decide (gX l A I)))/\Below w.heap.size w w':=by
 obtain⟨a,c,rfl⟩:=hR.form;obtain⟨R,hRr⟩:=Zn (decide (gX l A I));rw[<-hRr];have EQ:=zq hRr;have BX:=zq (show ∃ W,W=(w.alloc (.cells #[.int .i64 (A:Nat)] 3)).alloc (.cells #[.int .i64 (I:Nat)] 3)/\Below w.heap.size w W/\W.cell? ⟨w.heap.size,0,none⟩=some (.int .i64 (A:Nat))/\W.cell? ⟨w.heap.size+1,0,none⟩=some (.int .i64 (I:Nat))/\w.heap.size+1<W.heap.size from
  ⟨_,rfl,(Zb).alloc (by simp) _,cell_of_heap ((Below.heap_alloc _ _ _ (by simp)).trans (heap_alloc_new w _)) 0,by have:=cell_of_heap (heap_alloc_new (w.alloc (.cells #[.int .i64 (A:Nat)] 3)) (.cells #[.int .i64 (I:Nat)] 3)) 0;simp,by simp⟩)
 have HR:=zq hR;clear hR hRr;by_cases hlen:l.length<=32
 case neg =>
  have FL:=zq (EQ.o.trans (Zf (fun h=>hlen h.len)));have hlen':¬ (l.length:Int)<=32:=by omega
  clear hlen;obtain⟨W,hW,hb,_,_,_⟩:=BX.o;have BW:=zq (show Below w.heap.size w _ from hW▸hb);clear hW hb BX
  go_enter Tryz.func97,Tryz.ntmps97
  go_wp2_with fail
  go_ret;exact⟨aj FL.o.symm,BW.o⟩
 have hlen':(l.length:Int)<=32:=by omega
 have HL:=zq hlen;clear hlen
 go_enter Tryz.func97,Tryz.ntmps97
 go_wp2_with fail
 obtain⟨W,hW,hb,h4,h5,hs⟩:=BX.o;rw[<-hW];have BW:=zq hb;have H45:=zq (And.intro h4 h5);have ROW:=zq (HR.o.below hb);clear hW hb h4 h5 BX;refine (Dz W _ l ROW.o).mono ?_;rintro e w2 ⟨rfl,hb2⟩;have B2:=zq (BW.o.trans (hb2.mono BW.o.size));have M2:=zq (Mod.of_below hb2);have ROW2:=zq (ROW.o.below hb2);clear hb2 hs;by_cases hri:iK Ord.Lt l
 case neg =>
  have FL:=zq (EQ.o.trans (Zf (fun h=>hri h.rise)));rw[decide_eq_false hri];clear hri
  go_wp2_with fail
  go_ret;exact⟨aj FL.o.symm,B2.o⟩
 rw[decide_eq_true hri];have HRI:=zq hri;clear hri;have CF:=zq (lY w2 _ l 145 #[.pointer (some ⟨w.heap.size,0,none⟩),.pointer (some ⟨w.heap.size+1,0,none⟩)] (fun p=>!wF p A I) (enters_of Tryz.func145 (by kernel_rfl) rfl) ROW2.o (fun W' x hb' _ =>
  yJ W' x A I w.heap.size (w.heap.size+1) ((M2.o.trans (Mod.of_below hb') (fun _ _ h=>h)).cell H45.o.1 (fun h=>h)) ((M2.o.trans (Mod.of_below hb') (fun _ _ h=>h)).cell H45.o.2 (fun h=>h))))
 cases ha:(l.any fun p=>!wF p A I) with
 | true =>
   rw[ha] at CF;have FL:=zq (EQ.o.trans (Zf (fun h=>by
    obtain⟨x,hx,hp⟩:=jP _ _ ha;rw[(Dc x A I).2 (h.all x hx)] at hp;cases hp)))
   clear ha
   go_wp2_with fail
   refine CF.o.mono ?_;rintro e w3 ⟨rfl,hb3⟩;have B3:=zq (B2.o.trans (hb3.mono B2.o.size));clear hb3
   go_wp2_with fail
   go_ret;exact⟨aj FL.o.symm,B3.o⟩
 | false =>
   rw[ha] at CF;have FL:=zq (EQ.o.trans (decide_eq_true ⟨HL.o,fun x hx=>(Dc x A I).1 ((sH _ _).1 ha x hx),HRI.o⟩));clear ha
   go_wp2_with fail
   refine CF.o.mono ?_;rintro e w3 ⟨rfl,hb3⟩;have B3:=zq (B2.o.trans (hb3.mono B2.o.size));clear hb3
   go_wp2_with fail
   go_ret;exact⟨aj FL.o.symm,B3.o⟩
open Classical in
theorem DI (w:World) (v:Value) (l:List Ord) (A I:Nat) (hR:RowOf w 5 Ord.cells v l) :
 Calls Tryz.prog 79 #[v,.int .i64 (A:Nat),.int .i64 (I:Nat)] w fun e w'=>e=.returned (.bool (decide (gX l A I)))/\Below w.heap.size w w':=by
 obtain⟨a,c,rfl⟩:=hR.form;obtain⟨R,hRr⟩:=Zn (decide (gX l A I));rw[<-hRr];have EQ:=zq hRr;have HR:=zq hR;clear hR hRr;by_cases hlen:l.length<=32
 case neg =>
  have FL:=zq (EQ.o.trans (Zf (fun h=>hlen h.len)));have hlen':(32:Int)<(l.length:Int):=by omega
  clear hlen
  go_enter Tryz.func79,Tryz.ntmps79
  go_wp2_with fail
  go_ret;exact⟨aj FL.o.symm,Below.refl _ _⟩
 have hlen':¬ (32:Int)<(l.length:Int):=by omega
 have HL:=zq hlen;clear hlen
 go_enter Tryz.func79,Tryz.ntmps79
 go_wp2_with fail
 refine (Ap w _ l HR.o).mono ?_;rintro e w2 ⟨rfl,hb2⟩;have B2:=zq hb2;have ROW2:=zq (HR.o.below hb2);clear hb2;by_cases hri:rU l
 case neg =>
  have FL:=zq (EQ.o.trans (Zf (fun h=>hri ⟨fun x hx=>by have:=h.all x hx;unfold Ord.Ok at this;exact decide_eq_true (by omega),h.rise⟩)));rw[decide_eq_false hri];clear hri
  go_wp2_with fail
  go_ret;exact⟨aj FL.o.symm,B2.o⟩
 rw[decide_eq_true hri];have HRI:=zq hri;clear hri
 go_wp2_with fail
 go_loopw [19] (fun i wr=>∃ k:Nat,k<=l.length/\i=.int .i64 k/\Hid (∀ (j:Nat) x,j<k->l[j]?=some x->x.Ok A I)/\Below w.heap.size w wr) (fun i _=>l.length - (intOf i).toNat)
 case atStart=>exact⟨0,Nat.zero_le _,rfl,zq (fun j x hj=>by omega),B2.o⟩
 obtain⟨k,hk,rfl,INV,hb⟩:=hrel;have BW:=zq hb;have ROW:=zq (HR.o.below hb);clear hb;by_cases hlt:k<l.length
 ·obtain⟨x,hx⟩:∃ x,l[k]?=some x:=⟨_,List.getElem?_eq_getElem hlt⟩;obtain⟨b,o,rfl,hbl,hc⟩:=ROW.o.at_ hx;have c0:=hc 0 (.int .i64 x.ak) rfl;have c1:=hc 1 (.int .i64 x.id) rfl;have c2:=hc 2 (.int .i64 x.instr) rfl;have c3:=hc 3 (.int .i64 x.qty) rfl;have c4:=hc 4 (.int .i64 x.price) rfl;rw[Nat.add_zero] at c0;have hlt':(k:Int)<(l.length:Int):=by omega
  have HX:=zq hx;have LT:=zq hlt;have Q:=zq (HRI.o.all x (List.mem_of_getElem? hx));have BX2:=zq (BW.o.alloc BW.o.size (.cells #[.int .i64 x.ak,.int .i64 x.id,.int .i64 x.instr,.int .i64 x.qty,.int .i64 x.price] 74));have DEC:=zq (show ¬ x.Ok A I->R=false from fun hn=>EQ.o.trans (Zf (fun h=>hn (h.all x (List.mem_of_getElem? HX.o)))));have ch:(x.ak<2)\/(¬ (x.ak<2)/\(A:Int)<=x.ak)\/(¬ (x.ak<2)/\¬ ((A:Int)<=x.ak)/\x.id<1)\/(¬ (x.ak<2)/\¬ ((A:Int)<=x.ak)/\¬ (x.id<1)/\1099511627776<x.id)\/(¬ (x.ak<2)/\¬ ((A:Int)<=x.ak)/\¬ (x.id<1)/\¬ (1099511627776<x.id)/\x.instr<0)\/(¬ (x.ak<2)/\¬ ((A:Int)<=x.ak)/\¬ (x.id<1)/\¬ (1099511627776<x.id)/\¬ (x.instr<0)/\(I:Int)<=x.instr)\/(¬ (x.ak<2)/\¬ ((A:Int)<=x.ak)/\¬ (x.id<1)/\¬ (1099511627776<x.id)/\¬ (x.instr<0)/\¬ ((I:Int)<=x.instr)/\x.qty=0)\/(¬ (x.ak<2)/\¬ ((A:Int)<=x.ak)/\¬ (x.id<1)/\¬ (1099511627776<x.id)/\¬ (x.instr<0)/\¬ ((I:Int)<=x.instr)/\¬ (x.qty=0)/\x.price<1)\/(¬ (x.ak<2)/\¬ ((A:Int)<=x.ak)/\¬ (x.id<1)/\¬ (1099511627776<x.id)/\¬ (x.instr<0)/\¬ ((I:Int)<=x.instr)/\¬ (x.qty=0)/\¬ (x.price<1)/\100000000000000<x.price)\/(¬ (x.ak<2)/\¬ ((A:Int)<=x.ak)/\¬ (x.id<1)/\¬ (1099511627776<x.id)/\¬ (x.instr<0)/\¬ ((I:Int)<=x.instr)/\¬ (x.qty=0)/\¬ (x.price<1)/\¬ (100000000000000<x.price)):=by
   by_cases h0:x.ak<2
   ·exact Or.inl h0
   by_cases h1:(A:Int)<=x.ak
   ·exact Or.inr (Or.inl ⟨h0,h1⟩)
   by_cases h2:x.id<1
   ·exact Or.inr (Or.inr (Or.inl ⟨h0,h1,h2⟩))
   by_cases h3:1099511627776<x.id
   ·exact Or.inr (Or.inr (Or.inr (Or.inl ⟨h0,h1,h2,h3⟩)))
   by_cases h4:x.instr<0
   ·exact Or.inr (Or.inr (Or.inr (Or.inr (Or.inl ⟨h0,h1,h2,h3,h4⟩))))
   by_cases h5:(I:Int)<=x.instr
   ·exact Or.inr (Or.inr (Or.inr (Or.inr (Or.inr (Or.inl ⟨h0,h1,h2,h3,h4,h5⟩)))))
   by_cases h6:x.qty=0
   ·exact Or.inr (Or.inr (Or.inr (Or.inr (Or.inr (Or.inr (Or.inl ⟨h0,h1,h2,h3,h4,h5,h6⟩))))))
   by_cases h7:x.price<1
   ·exact Or.inr (Or.inr (Or.inr (Or.inr (Or.inr (Or.inr (Or.inr (Or.inl ⟨h0,h1,h2,h3,h4,h5,h6,h7⟩)))))))
   by_cases h8:100000000000000<x.price
   ·exact Or.inr (Or.inr (Or.inr (Or.inr (Or.inr (Or.inr (Or.inr (Or.inr (Or.inl ⟨h0,h1,h2,h3,h4,h5,h6,h7,h8⟩))))))))
   exact Or.inr (Or.inr (Or.inr (Or.inr (Or.inr (Or.inr (Or.inr (Or.inr (Or.inr ⟨h0,h1,h2,h3,h4,h5,h6,h7,h8⟩))))))))
  clear hx hc;rcases ch with h0|⟨h0,h1⟩|⟨h0,h1,h2⟩|⟨h0,h1,h2,h3⟩|⟨h0,h1,h2,h3,h4⟩|⟨h0,h1,h2,h3,h4,h5⟩|⟨h0,h1,h2,h3,h4,h5,h6⟩|⟨h0,h1,h2,h3,h4,h5,h6,h7⟩|⟨h0,h1,h2,h3,h4,h5,h6,h7,h8⟩|⟨h0,h1,h2,h3,h4,h5,h6,h7,h8⟩
  ·have FL:=zq (DEC.o (by unfold Ord.Ok;omega))
   go_wp2_with fail
   go_ret;exact⟨aj FL.o.symm,BX2.o⟩
  ·have FL:=zq (DEC.o (by unfold Ord.Ok;omega))
   go_wp2_with fail
   go_ret;exact⟨aj FL.o.symm,BX2.o⟩
  ·have FL:=zq (DEC.o (by unfold Ord.Ok;omega))
   go_wp2_with fail
   go_ret;exact⟨aj FL.o.symm,BX2.o⟩
  ·have FL:=zq (DEC.o (by unfold Ord.Ok;omega))
   go_wp2_with fail
   go_ret;exact⟨aj FL.o.symm,BX2.o⟩
  ·have FL:=zq (DEC.o (by unfold Ord.Ok;omega))
   go_wp2_with fail
   go_ret;exact⟨aj FL.o.symm,BX2.o⟩
  ·have FL:=zq (DEC.o (by unfold Ord.Ok;omega))
   go_wp2_with fail
   go_ret;exact⟨aj FL.o.symm,BX2.o⟩
  ·have FL:=zq (DEC.o (by unfold Ord.Ok;omega));have hbq:(x.qty==0)=true:=by simp[h6]
   clear h6
   go_wp2_with fail
   go_ret;exact⟨aj FL.o.symm,BX2.o⟩
  ·have FL:=zq (DEC.o (by unfold Ord.Ok;omega));have hbq:(x.qty==0)=false:=by simp[h6]
   clear h6
   go_wp2_with fail
   go_ret;exact⟨aj FL.o.symm,BX2.o⟩
  ·have FL:=zq (DEC.o (by unfold Ord.Ok;omega));have hbq:(x.qty==0)=false:=by simp[h6]
   clear h6
   go_wp2_with fail
   go_ret;exact⟨aj FL.o.symm,BX2.o⟩
  have YES:=zq (show x.Ok A I from by have:=of_decide_eq_true Q.o;unfold Ord.Ok;omega);have hbq:(x.qty==0)=false:=by simp[h6]
  clear h6
  go_wp2_with fail
  go_roundw
  case rel=>exact⟨k+1,by have:=LT.o;omega,by go_num,zq (fun j z hj hz=>by
   by_cases e:j=k
   ·subst e;have h1:=HX.o;rw[hz] at h1;cases h1;exact YES.o
   exact INV.o j z (by omega) hz),BX2.o⟩
  case measure=>have:=LT.o;simp[intOf];omega
 have hlt':¬ (k:Int)<(l.length:Int):=by omega
 have FL:=zq (EQ.o.trans (decide_eq_true ⟨HL.o,fun x hx=>by
  obtain⟨j,hj,e⟩:=List.mem_iff_getElem.1 hx;exact INV.o j x (by omega) (by rw[<-e];exact List.getElem?_eq_getElem hj),HRI.o.rise⟩))
 go_wp2_with fail
 go_ret;exact⟨aj FL.o.symm,BW.o⟩
theorem _root_.Go.Bw.RowOf.take {α:Type} {w:World} {n:Nat} {f:α->List Value} {a:Option Addr} {m c:Nat} {l:List α} (h:RowOf w n f (.slice a m c) l) (k:Nat) (hk:k<=l.length):RowOf w n f (.slice a k c) (l.take k):=by
 obtain⟨a',c',e,h1,h2,h3,h4⟩:=h.ex
 cases e
 have hl:(l.take k).length=k:=by rw[List.length_take];omega
 refine⟨a,c,by rw[hl],by rw[hl];omega,h2,h3,fun i x hi=>?_⟩;have hik:i<k:=by have:=(List.getElem?_eq_some_iff.1 hi).1;omega
 rw[List.getElem?_take_of_lt hik] at hi;exact h4 i x hi
theorem _root_.Go.Bw.ji.of {l:aH} (c0:1<=l.aQ.length) (c1:l.aQ.length<=4) (u1:l.ah.length<=6) (i1:l.af.length<=12)
 (aQ:∀ (n:Nat) c,n<l.aQ.length->l.aQ[n]?=some c->c.Ok n)
 (ah:∀ (n:Nat) u,n<l.ah.length->l.ah[n]?=some u->u.Ok l.aQ.length)
 (names:∀ (n k:Nat) u v,n<l.ah.length->k<n->l.ah[n]?=some u->l.ah[k]?=some v->v.name≠u.name)
 (af:∀ i∈l.af,i.Ok l.ah.length):ji l :=
 ⟨c0,c1,u1,i1,fun n c h=>aQ n c (List.getElem?_eq_some_iff.1 h).1 h,fun n c h=>ah n c (List.getElem?_eq_some_iff.1 h).1 h,
  fun n k u v h hu hv=>names n k u v (List.getElem?_eq_some_iff.1 hu).1 h hu hv,af⟩
theorem JH {l:List dX} {k:Nat} {x:dX} (h:0<=jS (fun u:dX=>u.name.toList==x.name.toList) (l.take k)):∃ j v,j<k/\l[j]?=some v/\v.name=x.name:=by
 have h1:=(l9 (fun u:dX=>u.name.toList==x.name.toList) (l.take k)).symm.trans (decide_eq_true h);obtain⟨v,hv,he⟩:=List.any_eq_true.1 h1;obtain⟨j,hj,e⟩:=List.mem_iff_getElem.1 hv;have hj':j<k:=by rw[List.length_take] at hj;omega
 refine⟨j,v,hj',?_,(mJ _ _).1 he⟩;have:=List.getElem?_eq_getElem hj;rw[e,List.getElem?_take_of_lt hj'] at this;exact this
theorem Nv {l:List dX} {k:Nat} {x:dX} (h:¬ 0<=jS (fun u:dX=>u.name.toList==x.name.toList) (l.take k)):∀ j v,j<k->l[j]?=some v->v.name≠x.name:=by
 intro j v hj hv he
 apply h
 have h1:=l9 (fun u:dX=>u.name.toList==x.name.toList) (l.take k)
 apply of_decide_eq_true
 rw[h1,List.any_eq_true];exact⟨v,List.mem_of_getElem? (by rw[List.getElem?_take_of_lt hj];exact hv),(mJ _ _).2 he⟩
open Classical in
theorem Ho (w:World) (V:aB) (L:aH) (h:bK w V L) :
 Calls Tryz.prog 94 #[V.val L] w fun e w'=>e=.returned (.bool (decide (ji L)))/\Below w.heap.size w w':=by
 obtain⟨a1,c1',a2,c2',a3,c3',a4,c4',a5,c5',a6,c6',a7,c7',a8,c8',asl,rfl⟩:=h.forms
 simp only[aB.val,aB.cells]
 have HC:=zq (show RowOf w 2 gu.cells (.slice a1 L.aQ.length c1') L.aQ from h.aQ);have HU:=zq (show RowOf w 4 dX.cells (.slice a2 L.ah.length c2') L.ah from h.ah);have HI:=zq (show RowOf w 7 Ins.cells (.slice a3 L.af.length c3') L.af from h.af);have HN:=zq h.names;obtain⟨R,hRr⟩:=Zn (decide (ji L));rw[<-hRr];have EQ:=zq hRr;obtain⟨C,hC⟩:=Zn L.aQ.length;obtain⟨U,hU⟩:=Zn L.ah.length;obtain⟨I,hI⟩:=Zn L.af.length;have LC:=zq hC;have LU:=zq hU;have LI:=zq hI;have capC:C<=9223372036854775807:=by have:=HC.o.caps;unfold maxLen at this;omega
 have capU:U<=9223372036854775807:=by have:=HU.o.caps;unfold maxLen at this;omega
 have capI:I<=9223372036854775807:=by have:=HI.o.caps;unfold maxLen at this;omega
 rw[<-hC,<-hU,<-hI];rw[<-hC] at HC;rw[<-hU] at HU;rw[<-hI] at HI;obtain⟨CS,hCS⟩:∃ CS:Array Value,CS=#[.int .i64 L.day,.slice a1 C c1',.slice a2 U c2',.slice a3 I c3',.slice a4 asl.length c4',.slice a5 L.au.length c5',.slice a6 L.orders.length c6',.slice a7 L.aG.length c7',.slice a8 L.aJ.length c8']:=⟨_,rfl⟩;have BX:=zq (show ∃ W,W=w.alloc (.cells #[.int .i64 L.day,.slice a1 C c1',.slice a2 U c2',.slice a3 I c3',.slice a4 asl.length c4',.slice a5 L.au.length c5',.slice a6 L.orders.length c6',.slice a7 L.aG.length c7',.slice a8 L.aJ.length c8'] 31)/\Below w.heap.size w W/\aY W w.heap.size CS from
  ⟨_,rfl,Zb,by rw[hCS];exact aY.new w _ _⟩)
 have ECS:=zq hCS;clear h hRr hC hU hI hCS;by_cases g1:(C:Int)<1
 ·have FL:=zq (EQ.o.trans (Zf (fun h=>by have:=h.c0;have:=LC.o;omega)))
  go_enter Tryz.func94,Tryz.ntmps94
  go_wp2_with fail
  go_ret;exact⟨aj FL.o.symm,Zb⟩
 by_cases g2:4<(C:Int)
 ·have FL:=zq (EQ.o.trans (Zf (fun h=>by have:=h.c1;have:=LC.o;omega)))
  go_enter Tryz.func94,Tryz.ntmps94
  go_wp2_with fail
  go_ret;exact⟨aj FL.o.symm,Zb⟩
 by_cases g3:6<(U:Int)
 ·have FL:=zq (EQ.o.trans (Zf (fun h=>by have:=h.u1;have:=LU.o;omega)))
  go_enter Tryz.func94,Tryz.ntmps94
  go_wp2_with fail
  go_ret;exact⟨aj FL.o.symm,Zb⟩
 by_cases g4:12<(I:Int)
 ·have FL:=zq (EQ.o.trans (Zf (fun h=>by have:=h.i1;have:=LI.o;omega)))
  go_enter Tryz.func94,Tryz.ntmps94
  go_wp2_with fail
  go_ret;exact⟨aj FL.o.symm,Zb⟩
 have OK1:=zq (show 1<=L.aQ.length/\L.aQ.length<=4/\L.ah.length<=6/\L.af.length<=12 from by have:=LC.o;have:=LU.o;have:=LI.o;omega)
 go_enter Tryz.func94,Tryz.ntmps94
 go_wp2_with fail
 clear g1 g3 g4;obtain⟨W,hW,hb,hbx⟩:=BX.o;rw[<-hW];have BW:=zq hb;have XW:=zq hbx;clear hW hb hbx BX
 go_loopw [32] (fun i wr=>∃ k:Nat,k<=C/\i=.int .i64 k/\Hid (∀ (j:Nat) x,j<k->L.aQ[j]?=some x->x.Ok j)/\Below W.heap.size W wr) (fun i _=>C - (intOf i).toNat)
 case atStart=>exact⟨0,Nat.zero_le _,rfl,zq (fun j x hj=>by omega),Below.refl _ _⟩
 obtain⟨k,hk,rfl,INV,hb⟩:=hrel;have B1:=zq hb;clear hb;by_cases hlt:k<C
 ·obtain⟨x,hx⟩:∃ x,L.aQ[k]?=some x:=⟨_,Zg (by have:=LC.o;omega)⟩;obtain⟨b,o,rfl,hbl,hc⟩:=((HC.o.below BW.o).below B1.o).at_ hx;have c0:=hc 0 (.int .i64 x.rate) rfl;have c1:=hc 1 (.int .i64 x.dL) rfl;rw[Nat.add_zero] at c0;have hlt':(k:Int)<(C:Int):=by omega
  have HX:=zq hx;have LT:=zq hlt;have CU:=zq (Il x k (by omega) (wr.alloc (.cells #[.int .i64 x.rate,.int .i64 x.dL] 86)));have B2:=zq (B1.o.alloc B1.o.size (.cells #[.int .i64 x.rate,.int .i64 x.dL] 86));have c0':=((Mod.refl (fun _=>False) wr).alloc (.cells #[.int .i64 x.rate,.int .i64 x.dL] 86));clear c0' hx hc
  cases hq:decide (x.Ok k) with
  | false =>
    have FL:=zq (EQ.o.trans (Zf (fun h=>(of_decide_eq_false hq) (h.aQ k x HX.o))));rw[hq] at CU;clear hq
    go_wp2_with fail
    refine CU.o.mono ?_;rintro e w' ⟨rfl,hb⟩;have B3:=zq (BW.o.trans ((B2.o.trans (hb.mono B2.o.size)).mono BW.o.size));clear hb
    go_wp2_with fail
    go_ret;exact⟨aj FL.o.symm,B3.o⟩
  | true =>
    have HQ:=zq (of_decide_eq_true hq);rw[hq] at CU;clear hq
    go_wp2_with fail
    refine CU.o.mono ?_;rintro e w' ⟨rfl,hb⟩;have B3:=zq (B2.o.trans (hb.mono B2.o.size));clear hb
    go_wp2_with fail
    go_roundw
    case rel=>exact⟨k+1,by have:=LT.o;omega,by go_num,zq (fun j z hj hz=>by
     by_cases e:j=k
     ·subst e;have h1:=HX.o;rw[hz] at h1;cases h1;exact HQ.o
     exact INV.o j z (by omega) hz),B3.o⟩
    case measure=>have:=LT.o;simp[intOf];omega
 have hlt':¬ (k:Int)<(C:Int):=by omega
 have CUR:=zq (show ∀ (j:Nat) x,j<L.aQ.length->L.aQ[j]?=some x->x.Ok j from fun j x hj hx=>INV.o j x (by have:=LC.o;omega) hx);have XR:=zq (XW.o.below B1.o);have m1:wr.cell? ⟨w.heap.size,1,none⟩=some (.slice a1 C c1'):=XR.o.at_ 1 _ (by rw[ECS.o];rfl);have m2:wr.cell? ⟨w.heap.size,2,none⟩=some (.slice a2 U c2'):=XR.o.at_ 2 _ (by rw[ECS.o];rfl);have BR:=zq (BW.o.trans (B1.o.mono BW.o.size));clear hk hlt INV
 go_wp2_with fail
 clear m1 m2;obtain⟨V1,hV1⟩:=Zn wr;rw[<-hV1] at BR XR B1 ⊢;clear hV1
 go_loopw [45] (fun i wr=>∃ k:Nat,k<=U/\i=.int .i64 k/\Hid ((∀ (j:Nat) x,j<k->L.ah[j]?=some x->x.Ok C)/\(∀ (n m:Nat) u v,n<k->m<n->L.ah[n]?=some u->L.ah[m]?=some v->v.name≠u.name))/\Below V1.heap.size V1 wr) (fun i _=>U - (intOf i).toNat)
 case atStart=>exact⟨0,Nat.zero_le _,rfl,zq ⟨fun j x hj=>by omega,fun n m u v hn=>by omega⟩,Below.refl _ _⟩
 obtain⟨k,hk,rfl,INV,hb⟩:=hrel;have B2:=zq hb;have B3:=zq (BR.o.trans (hb.mono BR.o.size));have XV:=zq (XR.o.below hb);clear hb;by_cases hlt:k<U
 ·obtain⟨x,hx⟩:∃ x,L.ah[k]?=some x:=⟨_,Zg (by have:=LU.o;omega)⟩;have ROW:=zq (HU.o.below B3.o);obtain⟨b,o,rfl,hbl,hc⟩:=ROW.o.at_ hx;have c0:=hc 0 (.string x.name) rfl;have c1:=hc 1 (.int .i64 x.cur) rfl;have c2:=hc 2 (.int .i64 x.price) rfl;have c3:=hc 3 (.int .i64 x.cZ) rfl;rw[Nat.add_zero] at c0;have hlt':(k:Int)<(U:Int):=by omega
  have HX:=zq hx;have LT:=zq hlt;have HS:=zq (HN.o x (List.mem_of_getElem? hx));have AX:=zq (show ∃ X,X=wr.alloc (.cells #[.string x.name,.int .i64 x.cur,.int .i64 x.price,.int .i64 x.cZ] 48)/\Below wr.heap.size wr X/\aY X wr.heap.size #[.string x.name,.int .i64 x.cur,.int .i64 x.price,.int .i64 x.cZ] from
   ⟨_,rfl,Zb,aY.new wr _ _⟩)
  clear hx hc
  go_wp2_with fail
  clear c0 c1 c2 c3 hlt hlt' hk;obtain⟨X,hX,hbX,hbx⟩:=AX.o;rw[<-hX];have BX2:=zq hbX;have xc0:=zq (show ∀ z:dh (Below X.heap.size X),z.w.cell? _=some _ from fun z=>(hbx.below z.ok).at_ 0 (.string x.name) rfl);have xc1:=zq (show ∀ z:dh (Below X.heap.size X),z.w.cell? _=some _ from fun z=>(hbx.below z.ok).at_ 1 (.int .i64 x.cur) rfl);have xc2:=zq (show ∀ z:dh (Below X.heap.size X),z.w.cell? _=some _ from fun z=>(hbx.below z.ok).at_ 2 (.int .i64 x.price) rfl);have xc3:=zq (show ∀ z:dh (Below X.heap.size X),z.w.cell? _=some _ from fun z=>(hbx.below z.ok).at_ 3 (.int .i64 x.cZ) rfl);have lc1:=zq (show ∀ z:dh (Below X.heap.size X),z.w.cell? _=some _ from fun z=>((XV.o.below hbX).below z.ok).at_ 1 (.slice a1 C c1') (by rw[ECS.o];rfl));have lc2:=zq (show ∀ z:dh (Below X.heap.size X),z.w.cell? _=some _ from fun z=>((XV.o.below hbX).below z.ok).at_ 2 (.slice (some ⟨b,o,none⟩) U c2') (by rw[ECS.o];rfl));have C1:=zq (show ∀ z:dh (Below X.heap.size X),Calls Tryz.prog 24 #[.agg #[.string x.name,.int .i64 x.cur,.int .i64 x.price,.int .i64 x.cZ],.int .i64 (C:Nat)] z.w fun e w'=>e=.returned (.bool (decide (x.Ok C)))/\∃ u:dh (Below X.heap.size X),w'=u.w from fun z =>
   (IU x C (by have:=OK1.o;have:=LC.o;omega) HS.o z.w).mono fun e w' h=>⟨h.1,⟨w',z.ok.trans (h.2.mono z.ok.size)⟩,rfl⟩)
  have C2:=zq (show ∀ z:dh (Below X.heap.size X),Calls Tryz.prog 51 #[.slice (some ⟨b,o,none⟩) k c2',.string x.name] z.w fun e w'=>e=.returned (.int .i64 (jS (fun u:dX=>u.name.toList==x.name.toList) (L.ah.take k)))/\∃ u:dh (Below X.heap.size X),w'=u.w from fun z =>
   (JG z.w _ (L.ah.take k) x.name (((ROW.o.below hbX).below z.ok).take k (by have:=LU.o;have:=LT.o;omega))).mono fun e w' h=>⟨h.1,⟨w',z.ok.trans (h.2.mono z.ok.size)⟩,rfl⟩)
  obtain⟨i,hi⟩:∃ i,i=jS (fun u:dX=>u.name.toList==x.name.toList) (L.ah.take k):=⟨_,rfl⟩;rw[<-hi] at C2;have EI:=zq hi;clear hX hbX hbx hi;have k0:(0:Int)<=(k:Int):=by omega
  have k1:(k:Int)<=(c2':Int):=by have:=ROW.o.caps;have:=LT.o;omega
  have k2:(k:Int)<=(U:Int):=by have:=LT.o;omega
  have k3:(k:Int)<=6:=by have:=LT.o;have:=OK1.o;have:=LU.o;omega
  cases hq:decide (x.Ok C) with
  | false =>
    have FL:=zq (EQ.o.trans (Zf (fun h=>(of_decide_eq_false hq) (by have:=h.ah k x HX.o;rw[LC.o];exact this))));rw[hq] at C1;clear hq;refine dH (C:=Below X.heap.size X) (by kernel_rfl) (by kernel_rfl) ⟨rfl,rfl,rfl,Nat.le_refl _,fun _ _=>rfl⟩ (fun _=>?_);have gx0:=xc0.o;have gx1:=xc1.o;have gx2:=xc2.o;have gx3:=xc3.o;have gl1:=lc1.o;have gl2:=lc2.o
    repeat (go_big_quiet_step (exact C1.o _))
    refine wpQuiet_nil ?_;intro w2 hC;clear gx0 gx1 gx2 gx3 gl1 gl2;have B4:=zq (B3.o.trans ((BX2.o.trans (hC.mono BX2.o.size)).mono B3.o.size));clear hC
    go_wp2_with fail
    go_ret;exact⟨aj FL.o.symm,B4.o⟩
  | true =>
    have HQ:=zq (of_decide_eq_true hq);rw[hq] at C1;clear hq;by_cases hneg:0<=i
    ·have FL:=zq (EQ.o.trans (Zf (fun h=>by
      rw[EI.o] at hneg;obtain⟨j,v,hj,hv,he⟩:=JH hneg;exact h.names k j x v hj HX.o hv he)))
     refine dH (C:=Below X.heap.size X) (by kernel_rfl) (by kernel_rfl) ⟨rfl,rfl,rfl,Nat.le_refl _,fun _ _=>rfl⟩ (fun _=>?_);have gx0:=xc0.o;have gx1:=xc1.o;have gx2:=xc2.o;have gx3:=xc3.o;have gl1:=lc1.o;have gl2:=lc2.o
     repeat (go_big_quiet_step (first|exact C1.o _|exact C2.o _))
     refine wpQuiet_nil ?_;intro w2 hC;clear gx0 gx1 gx2 gx3 gl1 gl2;have B4:=zq (B3.o.trans ((BX2.o.trans (hC.mono BX2.o.size)).mono B3.o.size));clear hC
     go_wp2_with fail
     go_ret;exact⟨aj FL.o.symm,B4.o⟩
    have NO:=zq (show ∀ j v,j<k->L.ah[j]?=some v->v.name≠x.name from by rw[EI.o] at hneg;exact Nv hneg);refine dH (C:=Below X.heap.size X) (by kernel_rfl) (by kernel_rfl) ⟨rfl,rfl,rfl,Nat.le_refl _,fun _ _=>rfl⟩ (fun _=>?_);have gx0:=xc0.o;have gx1:=xc1.o;have gx2:=xc2.o;have gx3:=xc3.o;have gl1:=lc1.o;have gl2:=lc2.o
    repeat (go_big_quiet_step (first|exact C1.o _|exact C2.o _))
    refine wpQuiet_nil ?_;intro w2 hC;clear gx0 gx1 gx2 gx3 gl1 gl2;have B4:=zq (B2.o.trans ((BX2.o.trans (hC.mono BX2.o.size)).mono B2.o.size));clear hC
    go_wp2_with fail
    go_roundw
    case rel=>exact⟨k+1,by have:=LT.o;omega,by go_num,zq ⟨fun j z hj hz=>by
     by_cases e:j=k
     ·subst e;have h1:=HX.o;rw[hz] at h1;cases h1;exact HQ.o
     ·exact INV.o.1 j z (by omega) hz,fun n m u v hn hm hu hv=>by
     by_cases e:n=k
     ·subst e;have h1:=HX.o;rw[hu] at h1;cases h1;exact NO.o m v hm hv
     exact INV.o.2 n m u v (by omega) hm hu hv⟩,B4.o⟩
    case measure=>have:=LT.o;simp[intOf];omega
 have hlt':¬ (k:Int)<(U:Int):=by omega
 have m3:wr.cell? ⟨w.heap.size,3,none⟩=some (.slice a3 I c3'):=XV.o.at_ 3 _ (by rw[ECS.o];rfl);have ALL:=zq (show (∀ (n:Nat) u,n<L.ah.length->L.ah[n]?=some u->u.Ok L.aQ.length)/\(∀ (n k:Nat) u v,n<L.ah.length->k<n->L.ah[n]?=some u->L.ah[k]?=some v->v.name≠u.name) from by
  have e1:=LC.o;have e2:=LU.o;rw[<-e1];exact⟨fun n u hn hu=>INV.o.1 n u (by omega) hu,fun n m u v hn hm hu hv=>INV.o.2 n m u v (by omega) hm hu hv⟩)
 have CF:=zq (rG wr _ L.af 134 #[.pointer (some ⟨w.heap.size,0,none⟩)] (fun x=>!decide (x.Ok U)) (enters_of Tryz.func134 (by kernel_rfl) rfl) (HI.o.below B3.o) (fun W' x hb' _ =>
  D7 W' x U (by have:=OK1.o;have:=LU.o;omega) w.heap.size a2 c2' ((XV.o.below hb').at_ 2 _ (by rw[ECS.o];rfl))))
 clear hlt hk INV
 cases ha:(L.af.any fun x=>!decide (x.Ok U)) with
 | true =>
   rw[ha] at CF;have FL:=zq (EQ.o.trans (Zf (fun h=>by
    obtain⟨x,hx,hp⟩:=jP _ _ ha;exact (of_decide_eq_false hp) (by have:=h.af x hx;rw[LU.o];exact this))))
   clear ha
   go_wp2_with fail
   refine CF.o.mono ?_;rintro e w3 ⟨rfl,hb3⟩;have B4:=zq (B3.o.trans (hb3.mono B3.o.size));clear hb3
   go_wp2_with fail
   go_ret;exact⟨aj FL.o.symm,B4.o⟩
 | false =>
   rw[ha] at CF;have FL:=zq (EQ.o.trans (decide_eq_true (ji.of OK1.o.1 OK1.o.2.1 OK1.o.2.2.1 OK1.o.2.2.2 CUR.o ALL.o.1 ALL.o.2 (fun x hx=>by
    have:=of_decide_eq_true ((sH _ _).1 ha x hx);rw[LU.o] at this;exact this))))
   clear ha
   go_wp2_with fail
   refine CF.o.mono ?_;rintro e w3 ⟨rfl,hb3⟩;have B4:=zq (B3.o.trans (hb3.mono B3.o.size));clear hb3
   go_wp2_with fail
   go_ret;exact⟨aj FL.o.symm,B4.o⟩
open Classical in
theorem zQ (w:World) (V:aB) (L:aH) (h:bK w V L) (hL:L.ai.length<=1024) :
 Calls Tryz.prog 95 #[V.val L] w fun e w'=>e=.returned (.bool (decide (jy L)))/\Below w.heap.size w w':=by
 obtain⟨a1,c1',a2,c2',a3,c3',a4,c4',a5,c5',a6,c6',a7,c7',a8,c8',asl,rfl⟩:=h.forms
 simp only[aB.val,aB.cells]
 have HA:=zq (show RowOf w 4 Acc.cells (.slice a4 asl.length c4') asl from h.ai);have HC:=zq (show ∀ p∈asl,RowOf w 1 dw p.2 p.1.aT from h.aT);have SM:=zq (show L.ai=asl.map (·.1) from h.same);have NU:=zq (show ∀ p∈asl,∀ x∈p.1.aT,I64 x from fun p hp x hx=>by
  have hs:L.ai=asl.map (·.1):=h.same;have:=h.nums p.1 (by rw[hs];exact List.mem_map_of_mem hp) x hx;exact⟨this.1,this.2⟩)
 have AL:=zq (show asl.length<=1024 from by have:=SM.o;rw[this,List.length_map] at hL;exact hL);obtain⟨R,hRr⟩:=Zn (decide (jy L));rw[<-hRr];have EQ:=zq hRr;obtain⟨C,hC⟩:=Zn L.aQ.length;have LC:=zq hC;obtain⟨N,hN⟩:=Zn asl.length;have LN:=zq hN;rw[<-hC,<-hN];rw[<-hN] at HA;have capN:(N:Int)<=1024:=by have:=AL.o;omega
 obtain⟨PS,hPS⟩:∃ PS,PS=asl.map fun p=>p.1.parent:=⟨_,rfl⟩
 have EP:=zq (show L.ai.map (·.parent)=PS from by rw[SM.o,hPS,List.map_map];rfl);have TR:=zq (show jy L->iD PS from fun h=>by rw[<-EP.o];exact h.tree);obtain⟨CS,hCS⟩:∃ CS:Array Value,CS=#[.int .i64 L.day,.slice a1 C c1',.slice a2 L.ah.length c2',.slice a3 L.af.length c3',.slice a4 N c4',.slice a5 L.au.length c5',.slice a6 L.orders.length c6',.slice a7 L.aG.length c7',.slice a8 L.aJ.length c8']:=⟨_,rfl⟩;have BX:=zq (show ∃ W,W=w.alloc (.cells #[.int .i64 L.day,.slice a1 C c1',.slice a2 L.ah.length c2',.slice a3 L.af.length c3',.slice a4 N c4',.slice a5 L.au.length c5',.slice a6 L.orders.length c6',.slice a7 L.aG.length c7',.slice a8 L.aJ.length c8'] 31)/\Below w.heap.size w W/\aY W w.heap.size CS from
  ⟨_,rfl,Zb,by rw[hCS];exact aY.new w _ _⟩)
 have ECS:=zq hCS;have EPS:=zq hPS;clear h hL hRr hC hN hCS hPS
 go_enter Tryz.func95,Tryz.ntmps95
 go_wp2_with fail
 obtain⟨W,hW,hb,hbx⟩:=BX.o;rw[<-hW];have BW:=zq hb;have XW:=zq hbx;clear hW hb hbx BX;have PA:=zq (vT W (.slice a4 N c4') asl (HA.o.below BW.o) AL.o (fun p hp=>by obtain⟨a,c,e⟩:=(HC.o p hp).form;exact⟨a,_,c,e⟩));refine PA.o.mono ?_;rintro e w1 ⟨v1,rfl,ho,hb⟩;rw[<-EPS.o] at ho;have B1:=zq hb;have OW:=zq ho;clear hb ho
 go_wp2_with fail
 have CK:=zq (check_any w1 v1 PS (gU OW.o));refine CK.o.mono ?_;rintro e w2 ⟨p,er,rfl,he,hb⟩;have B2:=zq (B1.o.trans (hb.mono B1.o.size));have ER:=zq he;clear hb he;by_cases h0:er=0
 case neg =>
  have FL:=zq (EQ.o.trans (Zf (fun h=>h0 (ER.o.2 (TR.o h)))));have B3:=zq (BW.o.trans (B2.o.mono BW.o.size));have e0:(er==0)=false:=beq_eq_false_iff_ne.2 h0;have e1:(er != 0)=true:=by rw[bne,e0];rfl
  clear h0
  go_wp2_with fail
  go_ret;exact⟨aj FL.o.symm,B3.o⟩
 subst h0;have TOK:=zq (ER.o.1 rfl);have n16:(N:Int)<=16:=by have:=TOK.o.hi;have e:=EPS.o;rw[e,List.length_map] at this;have:=LN.o;omega
 have XR:=zq (XW.o.below B2.o);have m4:w2.cell? ⟨w.heap.size,4,none⟩=some (.slice a4 N c4'):=XR.o.at_ 4 _ (by rw[ECS.o];rfl)
 go_wp2_with fail
 clear m4;have BR:=zq (BW.o.trans (B2.o.mono BW.o.size))
 go_loopw [19] (fun i wr=>∃ k:Nat,k<=N/\i=.int .i64 k/\Hid (∀ (j:Nat) x,j<k->asl[j]?=some x->x.1.Ok j C)/\Below w2.heap.size w2 wr) (fun i _=>N - (intOf i).toNat)
 case atStart=>exact⟨0,Nat.zero_le _,rfl,zq (fun j x hj=>by omega),Below.refl _ _⟩
 obtain⟨k,hk,rfl,INV,hb⟩:=hrel;have B3:=zq hb;have B4:=zq (BR.o.trans (hb.mono BR.o.size));have XV:=zq (XR.o.below hb);clear hb;by_cases hlt:k<N
 ·obtain⟨x,hx⟩:∃ x,asl[k]?=some x:=⟨_,Zg (by have:=LN.o;omega)⟩;obtain⟨b,o,rfl,hbl,hc⟩:=(HA.o.below B4.o).at_ hx;have RC:=zq (HC.o x (List.mem_of_getElem? hx));obtain⟨va,ca,hva⟩:=RC.o.form;have c0:=hc 0 (.int .i64 x.1.parent) rfl;have c1:=hc 1 (.slice va x.1.aT.length ca) (by simp[Acc.cells,hva]);have c2:=hc 2 (.bool x.1.flag) rfl;have c3:=hc 3 (.int .i64 x.1.last) rfl;rw[Nat.add_zero] at c0;rw[hva] at RC;have hlt':(k:Int)<(N:Int):=by omega
  have HX:=zq hx;have LT:=zq hlt;have UX:=zq (NU.o x (List.mem_of_getElem? hx));have BAD:=zq (show ¬ x.1.Ok k C->R=false from fun hn=>EQ.o.trans (Zf (fun h=>hn (by
   have:=h.ai k x.1 (by rw[SM.o,List.getElem?_map,HX.o];rfl);rw[LC.o];exact this))))
  obtain⟨M,hM⟩:=Zn x.1.aT.length;rw[<-hM] at c1 RC;have LM:=zq hM;obtain⟨FG,hFG⟩:=Zn x.1.flag;rw[<-hFG] at c2;have FE:=zq hFG;have AX:=zq (show ∃ X,X=wr.alloc (.cells #[.int .i64 x.1.parent,.slice va M ca,.bool FG,.int .i64 x.1.last] 52)/\Below wr.heap.size wr X from
   ⟨_,rfl,Zb⟩)
  have m1:(wr.alloc (.cells #[.int .i64 x.1.parent,.slice va M ca,.bool FG,.int .i64 x.1.last] 52)).cell? ⟨w.heap.size,1,none⟩=some (.slice a1 C c1'):=((Mod.refl (fun _=>False) wr).alloc _).cell (XV.o.at_ 1 _ (by rw[ECS.o];rfl)) (fun h=>h);have B5:=zq (B4.o.alloc B4.o.size (.cells #[.int .i64 x.1.parent,.slice va M ca,.bool FG,.int .i64 x.1.last] 52));have B6:=zq (B3.o.alloc B3.o.size (.cells #[.int .i64 x.1.parent,.slice va M ca,.bool FG,.int .i64 x.1.last] 52));clear hx hc hva hM hlt hk hFG;by_cases g1:(M:Int)=(C:Int)
  case neg =>
   have FL:=zq (BAD.o (fun h=>g1 (by have:=h.1;have:=LM.o;omega)));have e0:((M:Int)==(C:Int))=false:=beq_eq_false_iff_ne.2 g1;have e1:((M:Int) != (C:Int))=true:=by rw[bne,e0];rfl
   clear g1
   go_wp2_with fail
   go_ret;exact⟨aj FL.o.symm,B5.o⟩
  have G1:=zq g1;have e0:((M:Int)==(C:Int))=true:=beq_iff_eq.2 g1;have e1:((M:Int) != (C:Int))=false:=by rw[bne,e0];rfl
  clear g1;by_cases g2:x.1.last<0
  ·have FL:=zq (BAD.o (fun h=>by have:=h.2.1;omega))
   go_wp2_with fail
   go_ret;exact⟨aj FL.o.symm,B5.o⟩
  by_cases g3:1099511627776<x.1.last
  ·have FL:=zq (BAD.o (fun h=>by have:=h.2.2.1;omega))
   go_wp2_with fail
   go_ret;exact⟨aj FL.o.symm,B5.o⟩
  have CF:=zq (nJ (wr.alloc (.cells #[.int .i64 x.1.parent,.slice va M ca,.bool FG,.int .i64 x.1.last] 52)) _ x.1.aT 138 #[] (fun q=>!aO q) (enters_of Tryz.func138 (by kernel_rfl) rfl) (RC.o.below B5.o) (fun W' x hb' hm =>
   yA W' x (UX.o x hm)))
  have G2:=zq (show 0<=x.1.last/\x.1.last<=1099511627776 from by omega);have ch:((k:Int)<=1/\FG=true)\/((k:Int)<=1/\FG=false/\0<x.1.last)\/((k:Int)<=1/\FG=false/\¬ 0<x.1.last)\/(¬ (k:Int)<=1):=by
   by_cases q1:(k:Int)<=1
   ·by_cases q2:0<x.1.last
    ·cases FG
     ·exact Or.inr (Or.inl ⟨q1,rfl,q2⟩)
     exact Or.inl ⟨q1,rfl⟩
    cases FG
    ·exact Or.inr (Or.inr (Or.inl ⟨q1,rfl,q2⟩))
    exact Or.inl ⟨q1,rfl⟩
   exact Or.inr (Or.inr (Or.inr q1))
  have TAIL:=zq (show (k<2->x.1.flag=false/\x.1.last=0)->(x.1.aT.any fun q=>!aO q)=false->x.1.Ok k C from fun h1 h2 =>
   ⟨by have:=G1.o;have:=LM.o;omega,G2.o.1,G2.o.2,h1,fun q hq=>(sH _ _).1 h2 q hq⟩)
  have NOT:=zq (show (x.1.aT.any fun q=>!aO q)=true->R=false from fun ha=>BAD.o (fun h=>by
   obtain⟨q,hq,hp⟩:=jP _ _ ha;rw[h.2.2.2.2 q hq] at hp;cases hp))
  rcases ch with ⟨f1,rfl⟩|⟨f1,rfl,f3⟩|⟨f1,rfl,f3⟩|f1
  ·have FL:=zq (BAD.o (fun h=>by have:=(h.2.2.2.1 (by omega)).1;rw[<-FE.o] at this;cases this))
   go_wp2_with fail
   go_ret;exact⟨aj FL.o.symm,B5.o⟩
  ·have FL:=zq (BAD.o (fun h=>by have:=(h.2.2.2.1 (by omega)).2;omega))
   go_wp2_with fail
   go_ret;exact⟨aj FL.o.symm,B5.o⟩
  all_goals
   first
   | have HH:=zq (show (k<2->x.1.flag=false/\x.1.last=0) from fun _=>⟨FE.o.symm,by have:=G2.o;omega⟩)
   | have HH:=zq (show (k<2->x.1.flag=false/\x.1.last=0) from fun h=>absurd h (by omega))
   cases ha:(x.1.aT.any fun q=>!aO q)
   case true =>
    rw[ha] at CF;have FL:=zq (NOT.o ha);clear ha
    go_wp2_with fail
    refine CF.o.mono ?_;rintro e w3 ⟨rfl,hb3⟩;have B7:=zq (B5.o.trans (hb3.mono B5.o.size));clear hb3
    go_wp2_with fail
    go_ret;exact⟨aj FL.o.symm,B7.o⟩
   case false =>
    rw[ha] at CF;have YES:=zq (TAIL.o HH.o ha);clear ha
    go_wp2_with fail
    refine CF.o.mono ?_;rintro e w3 ⟨rfl,hb3⟩;have B7:=zq (B6.o.trans (hb3.mono B6.o.size));clear hb3
    go_wp2_with fail
    go_roundw
    case rel=>exact⟨k+1,by have:=LT.o;omega,by go_num,zq (fun j z hj hz=>by
     by_cases e:j=k
     ·subst e;have h1:=HX.o;rw[hz] at h1;cases h1;exact YES.o
     exact INV.o j z (by omega) hz),B7.o⟩
    case measure=>have:=LT.o;simp[intOf];omega
 have hlt':¬ (k:Int)<(N:Int):=by omega
 have FL:=zq (EQ.o.trans (decide_eq_true ⟨by rw[EP.o];exact TOK.o,fun v a ha=>by
  rw[SM.o,List.getElem?_map] at ha
  cases hz:asl[v]? with
  | none=>rw[hz] at ha;cases ha
  | some z =>
    rw[hz] at ha;cases ha;have:=INV.o v z (by have:=(List.getElem?_eq_some_iff.1 hz).1;have:=LN.o;omega) hz;rw[LC.o] at this;exact this⟩))
 clear hlt hk INV
 go_wp2_with fail
 go_ret;exact⟨aj FL.o.symm,B4.o⟩
theorem Hl (q:Int) (w:World):Calls Tryz.prog 148 #[.int .i64 q] w fun e w'=>e=.returned (.bool (!rY q))/\w=w':=by
 obtain⟨r,hr⟩:=Zn (rY q);rw[<-hr];have ch:q<0\/(¬ q<0/\1000000000<q)\/(¬ q<0/\¬ 1000000000<q):=by omega
 rcases ch with h1|⟨h1,h2⟩|⟨h1,h2⟩
 all_goals
  first
  | (have R:=zq (show r=true from by rw[hr];exact decide_eq_true (by omega)))
  | (have R:=zq (show r=false from by rw[hr];exact Zf (by omega)))
  clear hr
  go_enter Tryz.func148,Tryz.ntmps148
  go_wp2_with fail
  go_ret;refine⟨aj ?_,rfl⟩
  first|(rw[R.o];rfl)|(rw[R.o];simp;done)|(rw[R.o];simp;omega)
def oz (x:Pos) (A I:Nat):Prop:=2<=x.ak/\x.ak<A/\0<=x.instr/\x.instr<I/\1<=x.qty/\x.qty<=1000000000
open Classical in
theorem Fj (w:World) (va v:Value) (av:List Int) (l:List Pos) (A I:Nat) (hA:RowOf w 1 dw va av) (hR:RowOf w 3 Pos.cells v l) :
 Calls Tryz.prog 98 #[va,v,.int .i64 (A:Nat),.int .i64 (I:Nat)] w fun e w'=>e=.returned (.bool (decide (pY av l A I)))/\Below w.heap.size w w':=by
 obtain⟨aa,ca,rfl⟩:=hA.form;obtain⟨a,c,rfl⟩:=hR.form;obtain⟨R,hRr⟩:=Zn (decide (pY av l A I));rw[<-hRr];have EQ:=zq hRr;have HR:=zq hR;have HA:=zq hA;clear hR hRr hA;have CF:=zq (nJ w _ av 148 #[] (fun q=>!rY q) (enters_of Tryz.func148 (by kernel_rfl) rfl) HA.o (fun W' x hb' _=>(Hl x W').mono fun e w' h=>⟨h.1,by rw[<-h.2];exact Below.refl _ _⟩));by_cases h1:av.length=I
 case neg =>
  have FL:=zq (EQ.o.trans (Zf (fun h=>h1 h.len)));have hb:((av.length:Int) != (I:Int))=true:=by rw[bne_iff_ne];omega
  clear h1
  go_enter Tryz.func98,Tryz.ntmps98
  go_wp2_with fail
  go_ret;exact⟨aj FL.o.symm,Below.refl _ _⟩
 have hb:((av.length:Int) != (I:Int))=false:=by rw[h1];simp
 have H1:=zq h1;clear h1;by_cases hlen:l.length<=32
 case neg =>
  have FL:=zq (EQ.o.trans (Zf (fun h=>hlen h.Ae)));have hlen':(32:Int)<(l.length:Int):=by omega
  clear hlen
  go_enter Tryz.func98,Tryz.ntmps98
  go_wp2_with fail
  go_ret;exact⟨aj FL.o.symm,Below.refl _ _⟩
 have hlen':¬ (32:Int)<(l.length:Int):=by omega
 have HL:=zq hlen;clear hlen
 cases ha:(av.any fun q=>!rY q) with
 | true =>
   rw[ha] at CF;have FL:=zq (EQ.o.trans (Zf (fun h=>by
    obtain⟨x,hx,hp⟩:=jP _ _ ha;have:=h.aG x hx;unfold rY at hp;rw[decide_eq_true this] at hp;cases hp)))
   clear ha
   go_enter Tryz.func98,Tryz.ntmps98
   go_wp2_with fail
   refine CF.o.mono ?_;rintro e w3 ⟨rfl,hb3⟩;have B3:=zq hb3;clear hb3
   go_wp2_with fail
   go_ret;exact⟨aj FL.o.symm,B3.o⟩
 | false =>
 rw[ha] at CF;have AV:=zq (show ∀ q∈av,0<=q/\q<=1000000000 from fun q hq=>of_decide_eq_true ((sH _ _).1 ha q hq));clear ha
 go_enter Tryz.func98,Tryz.ntmps98
 go_wp2_with fail
 refine CF.o.mono ?_;rintro e w3 ⟨rfl,hb3⟩;have B3:=zq hb3;clear hb3
 go_wp2_with fail
 go_loopw [26] (fun i wr=>∃ k:Nat,k<=l.length/\i=.int .i64 k/\Hid ((∀ (j:Nat) x,j<k->l[j]?=some x->oz x A I)/\(∀ (j:Nat) x y,j+1<k->l[j]?=some x->l[j+1]?=some y->x.Lt y))/\Below w.heap.size w wr) (fun i _=>l.length - (intOf i).toNat)
 case atStart=>exact⟨0,Nat.zero_le _,rfl,zq ⟨fun j x hj=>by omega,fun j x y hj=>by omega⟩,B3.o⟩
 obtain⟨k,hk,rfl,INV,hb'⟩:=hrel;have BW:=zq hb';have ROW:=zq (HR.o.below hb');clear hb';by_cases hlt:k<l.length
 ·obtain⟨x,hx⟩:∃ x,l[k]?=some x:=⟨_,List.getElem?_eq_getElem hlt⟩;obtain⟨b,o,rfl,hbl,hc⟩:=ROW.o.at_ hx;have c0:=hc 0 (.int .i64 x.ak) rfl;have c1:=hc 1 (.int .i64 x.instr) rfl;have c2:=hc 2 (.int .i64 x.qty) rfl;rw[Nat.add_zero] at c0;have hlt':(k:Int)<(l.length:Int):=by omega
  have HX:=zq hx;have LT:=zq hlt;have BX2:=zq (BW.o.alloc BW.o.size (.cells #[.int .i64 x.ak,.int .i64 x.instr,.int .i64 x.qty] 72));have DEC:=zq (show ¬ oz x A I->R=false from fun hn=>EQ.o.trans (Zf (fun h=>hn (h.all x (List.mem_of_getElem? HX.o)))));clear hx;by_cases h0:x.ak<=1
  ·have FL:=zq (DEC.o (by unfold oz;omega));clear hc
   go_wp2_with fail
   go_ret;exact⟨aj FL.o.symm,BX2.o⟩
  by_cases h1:(A:Int)<=x.ak
  ·have FL:=zq (DEC.o (by unfold oz;omega));clear hc
   go_wp2_with fail
   go_ret;exact⟨aj FL.o.symm,BX2.o⟩
  by_cases h2:x.instr<0
  ·have FL:=zq (DEC.o (by unfold oz;omega));clear hc
   go_wp2_with fail
   go_ret;exact⟨aj FL.o.symm,BX2.o⟩
  by_cases h3:(I:Int)<=x.instr
  ·have FL:=zq (DEC.o (by unfold oz;omega));clear hc
   go_wp2_with fail
   go_ret;exact⟨aj FL.o.symm,BX2.o⟩
  by_cases h4:x.qty<1
  ·have FL:=zq (DEC.o (by unfold oz;omega));clear hc
   go_wp2_with fail
   go_ret;exact⟨aj FL.o.symm,BX2.o⟩
  by_cases h5:1000000000<x.qty
  ·have FL:=zq (DEC.o (by unfold oz;omega));clear hc
   go_wp2_with fail
   go_ret;exact⟨aj FL.o.symm,BX2.o⟩
  have YES:=zq (show oz x A I from by unfold oz;omega)
  cases k with
  | zero =>
    clear hc
    simp only[Nat.zero_mul,Nat.add_zero] at c0 c1 c2
    go_wp2_with fail
    go_quiet (fail)
    go_wp2_with fail
    go_roundw
    case rel=>exact⟨1,by have:=LT.o;omega,by go_num,zq ⟨fun j z hj hz=>by
     obtain rfl:j=0:=by omega
     have h1:=HX.o;rw[hz] at h1;cases h1;exact YES.o,fun j y z hj=>by omega⟩,below_drewN BX2.o _⟩
    case measure=>have:=LT.o;simp[intOf];omega
  | succ k =>
    obtain⟨y,hy⟩:∃ y,l[k]?=some y:=⟨_,Zg (by omega)⟩;obtain⟨b',o',e',hbl',hd⟩:=ROW.o.at_ hy
    cases e'
    have d0:=hd 0 (.int .i64 y.ak) rfl;have d1:=hd 1 (.int .i64 y.instr) rfl;have d2:=hd 2 (.int .i64 y.qty) rfl;rw[Nat.add_zero] at d0;have HY:=zq hy;have j1:(0:Int)<=(k:Int):=by omega
    have j2:(k:Int)<(l.length:Int):=by omega
    have w1:IntKind.i64.wrap (((k+1:Nat):Int) - 1)=(k:Int):=by rw[show ((k+1:Nat):Int) - 1=(k:Int) from by omega];exact IntWalk.i64_in _ (by omega)
    have g0:decide ((0:Int)<((k+1:Nat):Int))=true:=decide_eq_true (by omega);obtain⟨W,hW⟩:=Zn (wr.alloc (.cells #[.int .i64 x.ak,.int .i64 x.instr,.int .i64 x.qty] 72));have MW:=(Mod.refl (fun _=>False) wr).alloc (.cells #[.int .i64 x.ak,.int .i64 x.instr,.int .i64 x.qty] 72);have bx:=heap_alloc_new wr (.cells #[.int .i64 x.ak,.int .i64 x.instr,.int .i64 x.qty] 72);rw[<-hW] at MW bx BX2;have q0:=zq (show ∀ z:dh (Below W.heap.size W),z.w.cell? _=some _ from fun z=>(Mod.of_below z.ok).cell (MW.cell d0 (fun h=>h)) (fun h=>h));have q1:=zq (show ∀ z:dh (Below W.heap.size W),z.w.cell? _=some _ from fun z=>(Mod.of_below z.ok).cell (MW.cell d1 (fun h=>h)) (fun h=>h));have q2:=zq (show ∀ z:dh (Below W.heap.size W),z.w.cell? _=some _ from fun z=>(Mod.of_below z.ok).cell (MW.cell d2 (fun h=>h)) (fun h=>h));have p0:=zq (show ∀ z:dh (Below W.heap.size W),z.w.cell? ⟨wr.heap.size,0,none⟩=some (.int .i64 x.ak) from fun z=>(Mod.of_below z.ok).cell (cell_of_heap bx 0) (fun h=>h));have p1:=zq (show ∀ z:dh (Below W.heap.size W),z.w.cell? ⟨wr.heap.size,1,none⟩=some (.int .i64 x.instr) from fun z=>(Mod.of_below z.ok).cell (cell_of_heap bx 1) (fun h=>h));have p2:=zq (show ∀ z:dh (Below W.heap.size W),z.w.cell? ⟨wr.heap.size,2,none⟩=some (.int .i64 x.qty) from fun z=>(Mod.of_below z.ok).cell (cell_of_heap bx 2) (fun h=>h));have CALL:=zq (show ∀ z:dh (Below W.heap.size W),Calls Tryz.prog 149 #[.agg #[.int .i64 y.ak,.int .i64 y.instr,.int .i64 y.qty],.agg #[.int .i64 x.ak,.int .i64 x.instr,.int .i64 x.qty]] z.w fun e w'=>e=.returned (.int .i64 (yD y.ak x.ak y.instr x.instr))/\∃ u:dh (Below W.heap.size W),w'=u.w from fun z =>
     (Je z.w y x).mono fun e w' h=>⟨h.1,⟨w',z.ok.trans (h.2.mono z.ok.size)⟩,rfl⟩)
    obtain⟨r,hr⟩:=Zn (yD y.ak x.ak y.instr x.instr);rw[<-hr] at CALL;have HRr:=zq hr;have HWW:=zq hW;clear hy hc hd hr hW MW bx d0 d1 d2;have two:r<0\/0<=r:=by omega
    rcases two with hneg|hneg
    ·have hge:¬ (0:Int)<=r:=by omega
     go_wp2_with fail
     rw[<-HWW.o];clear c0 c1 c2;refine dH (C:=Below W.heap.size W) (by kernel_rfl) (by kernel_rfl) ⟨rfl,rfl,rfl,Nat.le_refl _,fun _ _=>rfl⟩ (fun _=>?_);have f0:=q0.o;have f1:=q1.o;have f2:=q2.o;have f3:=p0.o;have f4:=p1.o;have f5:=p2.o
     repeat (go_big_quiet_step (exact CALL.o _))
     refine wpQuiet_nil ?_;intro w2 hC;clear f0 f1 f2 f3 f4 f5;have B2:=zq (BX2.o.trans (hC.mono BX2.o.size));clear hC
     go_wp2_with fail
     go_roundw
     case rel=>exact⟨k+1+1,by have:=LT.o;omega,by go_num,zq ⟨fun j z hj hz=>by
      by_cases e:j=k+1
      ·subst e;have h1:=HX.o;rw[hz] at h1;cases h1;exact YES.o
      ·exact INV.o.1 j z (by omega) hz,fun j z z' hj hz hz'=>by
      by_cases e:j=k
      ·subst e;have h1:=HY.o;rw[hz] at h1;cases h1;have h2:=HX.o;rw[hz'] at h2;cases h2;exact (uD _ _ _ _).1 (by rw[<-HRr.o];exact hneg)
      exact INV.o.2 j z z' (by omega) hz hz'⟩,B2.o⟩
     case measure=>have:=LT.o;simp[intOf];omega
    have FL:=zq (EQ.o.trans (Zf (fun h=>by
     have h1:=(uD _ _ _ _).2 (h.rise k y x HY.o HX.o);rw[<-HRr.o] at h1;omega)))
    go_wp2_with fail
    rw[<-HWW.o];clear c0 c1 c2;refine dH (C:=Below W.heap.size W) (by kernel_rfl) (by kernel_rfl) ⟨rfl,rfl,rfl,Nat.le_refl _,fun _ _=>rfl⟩ (fun _=>?_);have f0:=q0.o;have f1:=q1.o;have f2:=q2.o;have f3:=p0.o;have f4:=p1.o;have f5:=p2.o
    repeat (go_big_quiet_step (exact CALL.o _))
    refine wpQuiet_nil ?_;intro w2 hC;clear f0 f1 f2 f3 f4 f5;have B2:=zq (BX2.o.trans (hC.mono BX2.o.size));clear hC
    go_wp2_with fail
    go_ret;exact⟨aj FL.o.symm,B2.o⟩
 have hlt':¬ (k:Int)<(l.length:Int):=by omega
 have FL:=zq (EQ.o.trans (decide_eq_true ⟨H1.o,HL.o,AV.o,fun x hx=>by
  obtain⟨j,hj,e⟩:=List.mem_iff_getElem.1 hx;exact INV.o.1 j x (by omega) (by rw[<-e];exact List.getElem?_eq_getElem hj),fun j x y hx hy=>INV.o.2 j x y (by have:=(List.getElem?_eq_some_iff.1 hy).1;omega) hx hy⟩))
 go_wp2_with fail
 go_ret;exact⟨aj FL.o.symm,BW.o⟩
def qj (asl:List (Acc×Value)) (o:Ord):Bool:=match asl[o.ak.toNat]? with|some x=>decide (x.1.last<o.id)|none=>false
open Classical in
theorem LG (w:World) (V:aB) (L:aH) (h:bK w V L) (hL:L.ai.length<=1024) :
 Calls Tryz.prog 60 #[V.val L] w fun e w'=>e=.returned (.bool (decide L.Good))/\Below w.heap.size w w':=by
 have HL:=zq h;obtain⟨a1,c1',a2,c2',a3,c3',a4,c4',a5,c5',a6,c6',a7,c7',a8,c8',asl,hV⟩:=h.forms;have TH:=zq (fun W (hb:Below w.heap.size w W)=>Ho W V L (h.below hb));have AC:=zq (fun W (hb:Below w.heap.size w W)=>zQ W V L (h.below hb) hL);have SM:=zq h.same;rw[hV] at TH AC SM h ⊢
 simp only[aB.val,aB.cells] at TH AC SM ⊢
 have HA:=zq (show RowOf w 4 Acc.cells (.slice a4 asl.length c4') asl from h.ai);have HP:=zq (show RowOf w 3 Pos.cells (.slice a5 L.au.length c5') L.au from h.au);have HO:=zq (show RowOf w 5 Ord.cells (.slice a6 L.orders.length c6') L.orders from h.orders);have HV:=zq (show RowOf w 1 dw (.slice a7 L.aG.length c7') L.aG from h.aG);have HK:=zq (show RowOf w 3 Pos.cells (.slice a8 L.aJ.length c8') L.aJ from h.aJ);have AL:=zq (show L.ai.length=asl.length from by have:=SM.o;rw[this,List.length_map]);obtain⟨R,hRr⟩:=Zn (decide L.Good);rw[<-hRr];have EQ:=zq hRr;have BAD:=zq (show ¬ L.Good->R=false from fun hn=>hRr.trans (decide_eq_false hn));obtain⟨C,hC⟩:=Zn L.aQ.length;obtain⟨U,hU⟩:=Zn L.ah.length;obtain⟨I,hI⟩:=Zn L.af.length;obtain⟨N,hN⟩:=Zn asl.length;obtain⟨PN,hPN⟩:=Zn L.au.length;obtain⟨ON,hON⟩:=Zn L.orders.length;obtain⟨VN,hVN⟩:=Zn L.aG.length;obtain⟨KN,hKN⟩:=Zn L.aJ.length;rw[<-hN] at AL HA;rw[<-hPN] at HP;rw[<-hON] at HO;rw[<-hVN] at HV;rw[<-hKN] at HK;rw[<-hC,<-hU,<-hI,<-hN,<-hPN,<-hON,<-hVN,<-hKN] at TH AC ⊢;have LI:=zq hI;have LN:=zq hN;have LP:=zq hPN;have LO:=zq hON;obtain⟨CS,hCS⟩:∃ CS:Array Value,CS=#[.int .i64 L.day,.slice a1 C c1',.slice a2 U c2',.slice a3 I c3',.slice a4 N c4',.slice a5 PN c5',.slice a6 ON c6',.slice a7 VN c7',.slice a8 KN c8']:=⟨_,rfl⟩;have BX:=zq (show ∃ W,W=w.alloc (.cells #[.int .i64 L.day,.slice a1 C c1',.slice a2 U c2',.slice a3 I c3',.slice a4 N c4',.slice a5 PN c5',.slice a6 ON c6',.slice a7 VN c7',.slice a8 KN c8'] 31)/\Below w.heap.size w W/\aY W w.heap.size CS from
  ⟨_,rfl,Zb,by rw[hCS];exact aY.new w _ _⟩)
 have ECS:=zq hCS;clear h hL hRr hC hU hI hN hPN hON hVN hKN hCS hV HL;by_cases g1:L.day<0
 ·have FL:=zq (BAD.o (fun h=>by have:=h.d0;omega))
  go_enter Tryz.func60,Tryz.ntmps60
  go_wp2_with fail
  go_ret;exact⟨aj FL.o.symm,Zb⟩
 by_cases g2:100000<L.day
 ·have FL:=zq (BAD.o (fun h=>by have:=h.d1;omega))
  go_enter Tryz.func60,Tryz.ntmps60
  go_wp2_with fail
  go_ret;exact⟨aj FL.o.symm,Zb⟩
 have DAY:=zq (show 0<=L.day/\L.day<=100000 from by omega)
 go_enter Tryz.func60,Tryz.ntmps60
 go_wp2_with fail
 obtain⟨W,hW,hb,hbx⟩:=BX.o;rw[<-hW];have BW:=zq hb;have XW:=zq hbx;clear hW hb hbx BX;have K1:=zq (TH.o W BW.o);by_cases q1:ji L
 case neg =>
  have FL:=zq (BAD.o (fun h=>q1 h.things));rw[decide_eq_false q1] at K1;clear q1;refine K1.o.mono ?_;rintro e w' ⟨rfl,hb⟩;have B:=zq (BW.o.trans (hb.mono BW.o.size));clear hb
  go_wp2_with fail
  go_ret;exact⟨aj FL.o.symm,B.o⟩
 have Y1:=zq q1;rw[decide_eq_true q1] at K1;clear q1;refine K1.o.mono ?_;rintro e w1 ⟨rfl,hb⟩;have B1:=zq (BW.o.trans (hb.mono BW.o.size));have X1:=zq (XW.o.below hb);clear hb;have m0:w1.cell? ⟨w.heap.size,0,none⟩=some (.int .i64 L.day):=X1.o.at_ 0 _ (by rw[ECS.o];rfl);have m1:w1.cell? ⟨w.heap.size,1,none⟩=some (.slice a1 C c1'):=X1.o.at_ 1 _ (by rw[ECS.o];rfl);have m2:w1.cell? ⟨w.heap.size,2,none⟩=some (.slice a2 U c2'):=X1.o.at_ 2 _ (by rw[ECS.o];rfl);have m3:w1.cell? ⟨w.heap.size,3,none⟩=some (.slice a3 I c3'):=X1.o.at_ 3 _ (by rw[ECS.o];rfl);have m4:w1.cell? ⟨w.heap.size,4,none⟩=some (.slice a4 N c4'):=X1.o.at_ 4 _ (by rw[ECS.o];rfl);have m5:w1.cell? ⟨w.heap.size,5,none⟩=some (.slice a5 PN c5'):=X1.o.at_ 5 _ (by rw[ECS.o];rfl);have m6:w1.cell? ⟨w.heap.size,6,none⟩=some (.slice a6 ON c6'):=X1.o.at_ 6 _ (by rw[ECS.o];rfl);have m7:w1.cell? ⟨w.heap.size,7,none⟩=some (.slice a7 VN c7'):=X1.o.at_ 7 _ (by rw[ECS.o];rfl);have m8:w1.cell? ⟨w.heap.size,8,none⟩=some (.slice a8 KN c8'):=X1.o.at_ 8 _ (by rw[ECS.o];rfl)
 go_wp2_with fail
 have K2:=zq (AC.o w1 B1.o);by_cases q2:jy L
 case neg =>
  have FL:=zq (BAD.o (fun h=>q2 h.accounts));rw[decide_eq_false q2] at K2;clear q2;refine K2.o.mono ?_;rintro e w' ⟨rfl,hb⟩;have B:=zq (B1.o.trans (hb.mono B1.o.size));clear hb
  go_wp2_with fail
  go_ret;exact⟨aj FL.o.symm,B.o⟩
 have Y2:=zq q2;rw[decide_eq_true q2] at K2;clear q2;refine K2.o.mono ?_;rintro e w2 ⟨rfl,hb⟩;have B2:=zq (B1.o.trans (hb.mono B1.o.size));have X2:=zq (X1.o.below hb);clear hb;clear m0 m1 m2 m3 m4 m5 m6 m7 m8;have n16:(N:Int)<=16:=by have:=Y2.o.tree.hi;rw[List.length_map] at this;have:=AL.o;omega
 have i12:(I:Int)<=12:=by have:=Y1.o.i1;have:=LI.o;omega
 have m0:w2.cell? ⟨w.heap.size,0,none⟩=some (.int .i64 L.day):=X2.o.at_ 0 _ (by rw[ECS.o];rfl);have m1:w2.cell? ⟨w.heap.size,1,none⟩=some (.slice a1 C c1'):=X2.o.at_ 1 _ (by rw[ECS.o];rfl);have m2:w2.cell? ⟨w.heap.size,2,none⟩=some (.slice a2 U c2'):=X2.o.at_ 2 _ (by rw[ECS.o];rfl);have m3:w2.cell? ⟨w.heap.size,3,none⟩=some (.slice a3 I c3'):=X2.o.at_ 3 _ (by rw[ECS.o];rfl);have m4:w2.cell? ⟨w.heap.size,4,none⟩=some (.slice a4 N c4'):=X2.o.at_ 4 _ (by rw[ECS.o];rfl);have m5:w2.cell? ⟨w.heap.size,5,none⟩=some (.slice a5 PN c5'):=X2.o.at_ 5 _ (by rw[ECS.o];rfl);have m6:w2.cell? ⟨w.heap.size,6,none⟩=some (.slice a6 ON c6'):=X2.o.at_ 6 _ (by rw[ECS.o];rfl);have m7:w2.cell? ⟨w.heap.size,7,none⟩=some (.slice a7 VN c7'):=X2.o.at_ 7 _ (by rw[ECS.o];rfl);have m8:w2.cell? ⟨w.heap.size,8,none⟩=some (.slice a8 KN c8'):=X2.o.at_ 8 _ (by rw[ECS.o];rfl)
 go_wp2_with fail
 clear m0 m1 m2 m3 m4 m5 m6 m7 m8;have z4:=zq (show ∀ z:dh (Below w2.heap.size w2),z.w.cell? ⟨w.heap.size,4,none⟩=some (.slice a4 N c4') from fun z=>(X2.o.below z.ok).at_ 4 _ (by rw[ECS.o];rfl));have z3:=zq (show ∀ z:dh (Below w2.heap.size w2),z.w.cell? ⟨w.heap.size,3,none⟩=some (.slice a3 I c3') from fun z=>(X2.o.below z.ok).at_ 3 _ (by rw[ECS.o];rfl));refine dH (C:=Below w2.heap.size w2) (by kernel_rfl) (by kernel_rfl) ⟨rfl,rfl,rfl,Nat.le_refl _,fun _ _=>rfl⟩ (fun _=>?_);have gz3:=z3.o;have gz4:=z4.o
 repeat (go_big_quiet_step (fail))
 refine wpQuiet_nil ?_;intro w3 hC;have B3:=zq (B2.o.trans (hC.mono B2.o.size));have X3:=zq (X2.o.below hC);clear gz3 gz4 z3 z4 hC;have m5:w3.cell? ⟨w.heap.size,5,none⟩=some (.slice a5 PN c5'):=X3.o.at_ 5 _ (by rw[ECS.o];rfl)
 go_wp2_with fail
 clear m5;have K4:=zq (NS w3 _ L.au N I (HP.o.below B3.o));by_cases q4:jB L.au N I
 case neg =>
  have FL:=zq (BAD.o (fun h=>q4 (by have:=h.au;rw[AL.o,<-LI.o] at this;exact this)));rw[decide_eq_false q4] at K4;clear q4;refine K4.o.mono ?_;rintro e w' ⟨rfl,hb⟩;have B:=zq (B3.o.trans (hb.mono B3.o.size));clear hb
  go_wp2_with fail
  go_ret;exact⟨aj FL.o.symm,B.o⟩
 have Y4:=zq q4;rw[decide_eq_true q4] at K4;clear q4;refine K4.o.mono ?_;rintro e w4 ⟨rfl,hb⟩;have B4:=zq (B3.o.trans (hb.mono B3.o.size));have X4:=zq (X3.o.below hb);clear hb;have m6:w4.cell? ⟨w.heap.size,6,none⟩=some (.slice a6 ON c6'):=X4.o.at_ 6 _ (by rw[ECS.o];rfl)
 go_wp2_with fail
 clear m6;have K5:=zq (FO w4 _ L.orders N I (HO.o.below B4.o));by_cases q5:gX L.orders N I
 case neg =>
  have FL:=zq (BAD.o (fun h=>q5 (by have:=h.orders;rw[AL.o,<-LI.o] at this;exact this)));rw[decide_eq_false q5] at K5;clear q5;refine K5.o.mono ?_;rintro e w' ⟨rfl,hb⟩;have B:=zq (B4.o.trans (hb.mono B4.o.size));clear hb
  go_wp2_with fail
  go_ret;exact⟨aj FL.o.symm,B.o⟩
 have Y5:=zq q5;rw[decide_eq_true q5] at K5;clear q5;refine K5.o.mono ?_;rintro e w5 ⟨rfl,hb⟩;have B5:=zq (B4.o.trans (hb.mono B4.o.size));have X5:=zq (X4.o.below hb);clear hb;have m7:w5.cell? ⟨w.heap.size,7,none⟩=some (.slice a7 VN c7'):=X5.o.at_ 7 _ (by rw[ECS.o];rfl);have m8:w5.cell? ⟨w.heap.size,8,none⟩=some (.slice a8 KN c8'):=X5.o.at_ 8 _ (by rw[ECS.o];rfl)
 go_wp2_with fail
 clear m7 m8;have K6:=zq (Fj w5 _ _ L.aG L.aJ N I (HV.o.below B5.o) (HK.o.below B5.o));by_cases q6:pY L.aG L.aJ N I
 case neg =>
  have FL:=zq (BAD.o (fun h=>q6 (by have:=h.aJ;rw[AL.o,<-LI.o] at this;exact this)));rw[decide_eq_false q6] at K6;clear q6;refine K6.o.mono ?_;rintro e w' ⟨rfl,hb⟩;have B:=zq (B5.o.trans (hb.mono B5.o.size));clear hb
  go_wp2_with fail
  go_ret;exact⟨aj FL.o.symm,B.o⟩
 have Y6:=zq q6;rw[decide_eq_true q6] at K6;clear q6;refine K6.o.mono ?_;rintro e w6 ⟨rfl,hb⟩;have B6:=zq (B5.o.trans (hb.mono B5.o.size));have X6:=zq (X5.o.below hb);clear hb;have m6:w6.cell? ⟨w.heap.size,6,none⟩=some (.slice a6 ON c6'):=X6.o.at_ 6 _ (by rw[ECS.o];rfl);have CF:=zq (lY w6 _ L.orders 100 #[.pointer (some ⟨w.heap.size,0,none⟩)] (qj asl) (enters_of Tryz.func100 (by kernel_rfl) rfl) (HO.o.below B6.o) (fun W' o hb' ho=>by
  have hok:=Y5.o.all o ho;have hlt:o.ak.toNat<asl.length:=by have:=hok.2.1;have:=hok.1;have:=LN.o;omega
  have hx:asl[o.ak.toNat]?=some asl[o.ak.toNat]:=List.getElem?_eq_getElem hlt;have e:qj asl o=decide ((asl[o.ak.toNat]).1.last<o.id):=by unfold qj;rw[hx]
  rw[e];exact Ju W' o asl _ w.heap.size a4 c4' (by rw[<-LN.o];exact (X6.o.below hb').at_ 4 _ (by rw[ECS.o];rfl)) (by rw[<-LN.o];exact (HA.o.below B6.o).below hb') (by have:=hok.1;omega) hx))
 cases ha:(L.orders.any (qj asl)) with
 | true =>
   rw[ha] at CF;have FL:=zq (BAD.o (fun h=>by
    obtain⟨o,ho,hp⟩:=List.any_eq_true.1 ha;unfold qj at hp
    cases hz:asl[o.ak.toNat]? with
    | none=>rw[hz] at hp;cases hp
    | some z =>
      rw[hz] at hp;have:=h.ids o ho z.1 (by rw[SM.o,List.getElem?_map,hz];rfl);have:=of_decide_eq_true hp;omega))
   clear ha
   go_wp2_with fail
   refine CF.o.mono ?_;rintro e w7 ⟨rfl,hb⟩;have B7:=zq (B6.o.trans (hb.mono B6.o.size));clear hb
   go_wp2_with fail
   go_ret;exact⟨aj FL.o.symm,B7.o⟩
 | false =>
   rw[ha] at CF;have FL:=zq (EQ.o.trans (decide_eq_true ⟨DAY.o.1,DAY.o.2,Y1.o,Y2.o,by rw[AL.o,<-LI.o];exact Y4.o,by rw[AL.o,<-LI.o];exact Y5.o,by rw[AL.o,<-LI.o];exact Y6.o,fun o ho a hacc=>by
    have h1:=List.any_eq_false.1 ha o ho;unfold qj at h1;rw[SM.o,List.getElem?_map] at hacc
    cases hz:asl[o.ak.toNat]? with
    | none=>rw[hz] at hacc;cases hacc
    | some z =>
      rw[hz] at hacc h1;have h2:z.1=a:=by simpa using hacc
      rw[<-h2]
      simp only[decide_eq_true_eq] at h1
      omega⟩))
   clear ha
   go_wp2_with fail
   refine CF.o.mono ?_;rintro e w7 ⟨rfl,hb⟩;have B7:=zq (B6.o.trans (hb.mono B6.o.size));clear hb
   go_wp2_with fail
   go_ret;exact⟨aj FL.o.symm,B7.o⟩
end Go.Proofs.YtcepekniflaoaaaGreatDoor
namespace Go.Proofs.YtcepekniflaoaaaGreatDoor
open Go.RowKit Go.Bw Go.Maps Go.Shelf Go.Bw.Fall
def Ih (w:World) (V:aB) (L:aH) (a:Nat) (e:Ending) (w':World):Prop:=∃ b mb bv,e=.returned (.pointer (some ⟨b,0,none⟩))/\dO w' b mb bv V L a/\Below w.heap.size w w'/\w.heap.size<=mb
open Classical in
theorem qU {w:World} {V:aB} {L:aH} (h:bK w V L) (hL:L.ai.length<=1024) {B:Bool} (hB:decide L.Good=B) :
 Calls Tryz.prog 60 #[.agg #[.int .i64 L.day,V.aQ,V.ah,V.af,V.ai,V.au,V.orders,V.aG,V.aJ]] w fun e w'=>e=.returned (.bool B)/\Below w.heap.size w w':=by
 have:=LG w V L h hL;rw[hB] at this;exact this
theorem bK.opened {w:World} {V:aB} {L:aH} (h:bK w V L):∃ a1 c1 a2 c2 a3 c3 a4 c4 a5 c5 a6 c6 a7 c7 a8 c8,V.aQ=.slice a1 L.aQ.length c1/\V.ah=.slice a2 L.ah.length c2/\V.af=.slice a3 L.af.length c3/\V.ai=.slice a4 L.ai.length c4/\V.au=.slice a5 L.au.length c5/\V.orders=.slice a6 L.orders.length c6/\V.aG=.slice a7 L.aG.length c7/\V.aJ=.slice a8 L.aJ.length c8:=by
 obtain⟨a1,c1,h1⟩:=h.aQ.form;obtain⟨a2,c2,h2⟩:=h.ah.form;obtain⟨a3,c3,h3⟩:=h.af.form;obtain⟨a4,c4,h4⟩:=h.ai.form;obtain⟨a5,c5,h5⟩:=h.au.form;obtain⟨a6,c6,h6⟩:=h.orders.form;obtain⟨a7,c7,h7⟩:=h.aG.form;obtain⟨a8,c8,h8⟩:=h.aJ.form;refine⟨a1,c1,a2,c2,a3,c3,a4,c4,a5,c5,a6,c6,a7,c7,a8,c8,h1,h2,h3,?_,h5,h6,h7,h8⟩;rw[h4]
 congr 1
 have:=h.same;rw[this,List.length_map]
theorem xC {w w0 w4:World} {V:aB} {L:aH} {a mb:Nat} {bv:Value} {a1 a2 a3 a4 a5 a6 a7 a8:Option Addr} {n1 n2 n3 n4 n5 n6 n7 n8 c1 c2 c3 c4 c5 c6 c7 c8:Nat} (hl:bK w V L) (hg:rF w) (hb:Below w.heap.size w w0) (hb4:Below w0.heap.size w0 w4) (hr:RowOf w4 1 dw bv (ints (gI L.parents a))) (hm:MapAt w4 Tryz.prog 3 mb L.af.length (kz L)) (hmb:w.heap.size<=mb)
 (hv:V.aQ=.slice a1 n1 c1/\V.ah=.slice a2 n2 c2/\V.af=.slice a3 n3 c3/\V.ai=.slice a4 n4 c4/\V.au=.slice a5 n5 c5/\V.orders=.slice a6 n6 c6/\V.aG=.slice a7 n7 c7/\V.aJ=.slice a8 n8 c8) :
 Ih w V L a (.returned (.pointer (some ⟨w4.heap.size,0,none⟩))) (w4.alloc (.cells #[.int .i64 L.day,.slice a1 n1 c1,.slice a2 n2 c2,.slice a3 n3 c3,.slice a4 n4 c4,.slice a5 n5 c5,.slice a6 n6 c6,.slice a7 n7 c7,.slice a8 n8 c8,bv,.map (some mb)] 184)):=by
 obtain⟨v1,v2,v3,v4,v5,v6,v7,v8⟩:=hv;have b4:=hb.trans (hb4.mono hb.size);have bN:Below w4.heap.size w4 (w4.alloc (.cells #[.int .i64 L.day,.slice a1 n1 c1,.slice a2 n2 c2,.slice a3 n3 c3,.slice a4 n4 c4,.slice a5 n5 c5,.slice a6 n6 c6,.slice a7 n7 c7,.slice a8 n8 c8,bv,.map (some mb)] 184)):=Zb;have bT:=b4.trans (bN.mono b4.size);refine⟨_,mb,bv,rfl,⟨?_,hl.below bT,hr.below bN,hm.mod (Mod.of_below bN) (fun h=>h),hg.below bT⟩,bT,hmb⟩;rw[v1,v2,v3,v4,v5,v6,v7,v8];exact aY.new _ _ _
theorem Nk (w:World) (V:aB) (L:aH) (h:bK w V L) (hL:L.ai.length<=1024) (hng:¬ L.Good) (ak:Int) :
 Calls Tryz.prog 175 #[V.val L,.int .i64 ak] w fun e w'=>e=.panicked (lg 43)/\Below w.heap.size w w':=by
 classical
 have hG:decide L.Good=false:=decide_eq_false hng;obtain⟨a1,c1,a2,c2,a3,c3,a4,c4,a5,c5,a6,c6,a7,c7,a8,c8,e1,e2,e3,e4,e5,e6,e7,e8⟩:=bK.opened h;have EV:=zq (And.intro e1 (And.intro e2 (And.intro e3 (And.intro e4 (And.intro e5 (And.intro e6 (And.intro e7 e8)))))));have GD:=zq (show ∀ W,Below w.heap.size w W->Calls Tryz.prog 60 #[.agg #[.int .i64 L.day,.slice a1 L.aQ.length c1,.slice a2 L.ah.length c2,.slice a3 L.af.length c3,.slice a4 L.ai.length c4,.slice a5 L.au.length c5,.slice a6 L.orders.length c6,.slice a7 L.aG.length c7,.slice a8 L.aJ.length c8]] W fun e w'=>e=.returned (.bool false)/\Below W.heap.size W w' from fun W hb=>by
  have:=qU (h.below hb) hL hG;rw[e1,e2,e3,e4,e5,e6,e7,e8] at this;exact this)
 unfold aB.val aB.cells;rw[e1,e2,e3,e4,e5,e6,e7,e8];obtain⟨n1,hn1⟩:=Zn L.aQ.length;obtain⟨n2,hn2⟩:=Zn L.ah.length;obtain⟨n3,hn3⟩:=Zn L.af.length;obtain⟨n4,hn4⟩:=Zn L.ai.length;obtain⟨n5,hn5⟩:=Zn L.au.length;obtain⟨n6,hn6⟩:=Zn L.orders.length;obtain⟨n7,hn7⟩:=Zn L.aG.length;obtain⟨n8,hn8⟩:=Zn L.aJ.length;have LN:=zq hn4;rw[<-hn1,<-hn2,<-hn3,<-hn4,<-hn5,<-hn6,<-hn7,<-hn8] at GD EV ⊢;obtain⟨CS,hCS⟩:∃ CS:Array Value,CS=#[.int .i64 L.day,.slice a1 n1 c1,.slice a2 n2 c2,.slice a3 n3 c3,.slice a4 n4 c4,.slice a5 n5 c5,.slice a6 n6 c6,.slice a7 n7 c7,.slice a8 n8 c8]:=⟨_,rfl⟩;have ECS:=zq hCS;have BX:=zq (show Below w.heap.size w (w.alloc (.cells #[.int .i64 L.day,.slice a1 n1 c1,.slice a2 n2 c2,.slice a3 n3 c3,.slice a4 n4 c4,.slice a5 n5 c5,.slice a6 n6 c6,.slice a7 n7 c7,.slice a8 n8 c8] 31))/\aY (w.alloc (.cells #[.int .i64 L.day,.slice a1 n1 c1,.slice a2 n2 c2,.slice a3 n3 c3,.slice a4 n4 c4,.slice a5 n5 c5,.slice a6 n6 c6,.slice a7 n7 c7,.slice a8 n8 c8] 31)) w.heap.size CS from
  ⟨Zb,by rw[hCS];exact aY.new w _ _⟩)
 clear h hL hng hG e1 e2 e3 e4 e5 e6 e7 e8 hn1 hn2 hn3 hn4 hn5 hn6 hn7 hn8 hCS
 go_enter Tryz.func175,Tryz.ntmps175
 go_wp2_with fail
 refine (GD.o _ BX.o.1).mono ?_;rintro e w1 ⟨rfl,hb⟩;have B1:=zq (BX.o.1.trans (hb.mono BX.o.1.size));clear hb
 go_wp2_with fail
 exact⟨rfl,rfl,B1.o⟩
theorem Nl (w:World) (V:aB) (L:aH) (h:bK w V L) (hL:L.ai.length<=1024) (hgd:L.Good) (ak:Int) (ho:ak<0\/(L.ai.length:Int)<=ak) :
 Calls Tryz.prog 175 #[V.val L,.int .i64 ak] w fun e w'=>e=.panicked (lg 33)/\Below w.heap.size w w':=by
 classical
 have hG:decide L.Good=true:=decide_eq_true hgd;have al:L.ai.length<=1024:=hL;obtain⟨a1,c1,a2,c2,a3,c3,a4,c4,a5,c5,a6,c6,a7,c7,a8,c8,e1,e2,e3,e4,e5,e6,e7,e8⟩:=bK.opened h;have EV:=zq (And.intro e1 (And.intro e2 (And.intro e3 (And.intro e4 (And.intro e5 (And.intro e6 (And.intro e7 e8)))))));have GD:=zq (show ∀ W,Below w.heap.size w W->Calls Tryz.prog 60 #[.agg #[.int .i64 L.day,.slice a1 L.aQ.length c1,.slice a2 L.ah.length c2,.slice a3 L.af.length c3,.slice a4 L.ai.length c4,.slice a5 L.au.length c5,.slice a6 L.orders.length c6,.slice a7 L.aG.length c7,.slice a8 L.aJ.length c8]] W fun e w'=>e=.returned (.bool true)/\Below W.heap.size W w' from fun W hb=>by
  have:=qU (h.below hb) hL hG;rw[e1,e2,e3,e4,e5,e6,e7,e8] at this;exact this)
 unfold aB.val aB.cells;rw[e1,e2,e3,e4,e5,e6,e7,e8];obtain⟨n1,hn1⟩:=Zn L.aQ.length;obtain⟨n2,hn2⟩:=Zn L.ah.length;obtain⟨n3,hn3⟩:=Zn L.af.length;obtain⟨n4,hn4⟩:=Zn L.ai.length;obtain⟨n5,hn5⟩:=Zn L.au.length;obtain⟨n6,hn6⟩:=Zn L.orders.length;obtain⟨n7,hn7⟩:=Zn L.aG.length;obtain⟨n8,hn8⟩:=Zn L.aJ.length;have LN:=zq hn4;rw[<-hn1,<-hn2,<-hn3,<-hn4,<-hn5,<-hn6,<-hn7,<-hn8] at GD EV ⊢;obtain⟨CS,hCS⟩:∃ CS:Array Value,CS=#[.int .i64 L.day,.slice a1 n1 c1,.slice a2 n2 c2,.slice a3 n3 c3,.slice a4 n4 c4,.slice a5 n5 c5,.slice a6 n6 c6,.slice a7 n7 c7,.slice a8 n8 c8]:=⟨_,rfl⟩;have ECS:=zq hCS;have BX:=zq (show Below w.heap.size w (w.alloc (.cells #[.int .i64 L.day,.slice a1 n1 c1,.slice a2 n2 c2,.slice a3 n3 c3,.slice a4 n4 c4,.slice a5 n5 c5,.slice a6 n6 c6,.slice a7 n7 c7,.slice a8 n8 c8] 31))/\aY (w.alloc (.cells #[.int .i64 L.day,.slice a1 n1 c1,.slice a2 n2 c2,.slice a3 n3 c3,.slice a4 n4 c4,.slice a5 n5 c5,.slice a6 n6 c6,.slice a7 n7 c7,.slice a8 n8 c8] 31)) w.heap.size CS from
  ⟨Zb,by rw[hCS];exact aY.new w _ _⟩)
 rw[<-hn4] at ho al;clear h hL hgd hG e1 e2 e3 e4 e5 e6 e7 e8 hn1 hn2 hn3 hn4 hn5 hn6 hn7 hn8 hCS
 go_enter Tryz.func175,Tryz.ntmps175
 go_wp2_with fail
 refine (GD.o _ BX.o.1).mono ?_;rintro e w1 ⟨rfl,hb⟩;have B1:=zq (BX.o.1.trans (hb.mono BX.o.1.size));have X1:=zq (BX.o.2.below hb);clear hb;have x4:w1.cell? ⟨w.heap.size,4,none⟩=some (.slice a4 n4 c4):=X1.o.at_ 4 _ (by rw[ECS.o];rfl);by_cases hneg:ak<0
 ·clear ho
  go_wp2_with fail
  exact⟨rfl,rfl,B1.o⟩
 have hge:(n4:Int)<=ak:=by rcases ho with h|h;exact absurd h hneg;exact h
 have hge':¬ ak<(n4:Int):=by omega
 clear ho
 go_wp2_with fail
 exact⟨rfl,rfl,B1.o⟩
theorem look_ok (w:World) (V:aB) (L:aH) (h:bK w V L) (hgd:L.Good) (hGr:rF w) (a:Nat) (ha:a<L.ai.length) :
 Calls Tryz.prog 175 #[V.val L,.int .i64 (a:Int)] w (Ih w V L a):=by
 classical
 have hG:decide L.Good=true:=decide_eq_true hgd;have hL:L.ai.length<=1024:=by have:=hgd.accounts.tree.hi;simp only[List.length_map] at this;omega
 have al:L.ai.length<=1024:=hL;have HL:=zq h;have HG:=zq hgd;have GR:=zq hGr;have HA:=zq ha;have SM:=zq (show V.ac.map (fun p=>p.1.parent)=L.parents from by unfold aH.parents;rw[h.same,List.map_map];rfl);have AL:=zq (show V.ac.length<=1024 from by have:=h.same;have h2:=congrArg List.length this;rw[List.length_map] at h2;omega);obtain⟨a1,c1,a2,c2,a3,c3,a4,c4,a5,c5,a6,c6,a7,c7,a8,c8,e1,e2,e3,e4,e5,e6,e7,e8⟩:=bK.opened h;have EV:=zq (And.intro e1 (And.intro e2 (And.intro e3 (And.intro e4 (And.intro e5 (And.intro e6 (And.intro e7 e8)))))));have GD:=zq (show ∀ W,Below w.heap.size w W->Calls Tryz.prog 60 #[.agg #[.int .i64 L.day,.slice a1 L.aQ.length c1,.slice a2 L.ah.length c2,.slice a3 L.af.length c3,.slice a4 L.ai.length c4,.slice a5 L.au.length c5,.slice a6 L.orders.length c6,.slice a7 L.aG.length c7,.slice a8 L.aJ.length c8]] W fun e w'=>e=.returned (.bool true)/\Below W.heap.size W w' from fun W hb=>by
  have:=qU (h.below hb) hL hG;rw[e1,e2,e3,e4,e5,e6,e7,e8] at this;exact this)
 unfold aB.val aB.cells;rw[e1,e2,e3,e4,e5,e6,e7,e8];obtain⟨n1,hn1⟩:=Zn L.aQ.length;obtain⟨n2,hn2⟩:=Zn L.ah.length;obtain⟨n3,hn3⟩:=Zn L.af.length;obtain⟨n4,hn4⟩:=Zn L.ai.length;obtain⟨n5,hn5⟩:=Zn L.au.length;obtain⟨n6,hn6⟩:=Zn L.orders.length;obtain⟨n7,hn7⟩:=Zn L.aG.length;obtain⟨n8,hn8⟩:=Zn L.aJ.length;have LN:=zq hn4;rw[<-hn1,<-hn2,<-hn3,<-hn4,<-hn5,<-hn6,<-hn7,<-hn8] at GD EV ⊢;obtain⟨CS,hCS⟩:∃ CS:Array Value,CS=#[.int .i64 L.day,.slice a1 n1 c1,.slice a2 n2 c2,.slice a3 n3 c3,.slice a4 n4 c4,.slice a5 n5 c5,.slice a6 n6 c6,.slice a7 n7 c7,.slice a8 n8 c8]:=⟨_,rfl⟩;have ECS:=zq hCS;have BX:=zq (show Below w.heap.size w (w.alloc (.cells #[.int .i64 L.day,.slice a1 n1 c1,.slice a2 n2 c2,.slice a3 n3 c3,.slice a4 n4 c4,.slice a5 n5 c5,.slice a6 n6 c6,.slice a7 n7 c7,.slice a8 n8 c8] 31))/\aY (w.alloc (.cells #[.int .i64 L.day,.slice a1 n1 c1,.slice a2 n2 c2,.slice a3 n3 c3,.slice a4 n4 c4,.slice a5 n5 c5,.slice a6 n6 c6,.slice a7 n7 c7,.slice a8 n8 c8] 31)) w.heap.size CS from
  ⟨Zb,by rw[hCS];exact aY.new w _ _⟩)
 have a1':(a:Int)<(n4:Int):=by omega
 have a0':(0:Int)<=(a:Int):=by omega
 rw[<-hn4] at al;clear h hL hgd hG e1 e2 e3 e4 e5 e6 e7 e8 hn1 hn2 hn3 hn4 hn5 hn6 hn7 hn8 hCS hGr ha
 go_enter Tryz.func175,Tryz.ntmps175
 go_wp2_with fail
 refine (GD.o _ BX.o.1).mono ?_;rintro e w0 ⟨rfl,hb⟩;have B0:=zq (BX.o.1.trans (hb.mono BX.o.1.size));have X0:=zq (BX.o.2.below hb);clear hb BX;have x4:w0.cell? ⟨w.heap.size,4,none⟩=some (.slice a4 n4 c4):=X0.o.at_ 4 _ (by rw[ECS.o];rfl)
 go_wp2_with fail
 obtain⟨hb2,hhb2⟩:=Zn w.heap.size;rw[<-hhb2] at X0 x4 ⊢;clear hhb2 x4;have PC:=zq (show ∀ W,Below w0.heap.size w0 W->Calls Tryz.prog 136 #[.slice a4 n4 c4] W (qc W L.parents) from fun W hb=>by
  have hl:=HL.o.below (B0.o.trans (hb.mono B0.o.size));have:=vT W V.ai V.ac hl.ai AL.o hl.iV;rw[SM.o,EV.o.2.2.2.1] at this;exact this)
 have BC:=zq (show ∀ W pv,RowOf W 1 dw pv L.parents->Calls Tryz.prog 190 #[pv,.int .i64 (a:Int)] W (qc W (ints (gI L.parents a))) from fun W pv hr=>Jc W pv L.parents a hr HG.o.accounts.tree (by unfold aH.parents;rw[List.length_map];exact HA.o));have y0:∀ z:dh (fun W=>Below w0.heap.size w0 W),z.w.cell? ⟨hb2,0,none⟩=some (.int .i64 L.day):=fun z=>(X0.o.below z.ok).at_ 0 _ (by rw[ECS.o];rfl)
 have y1:∀ z:dh (fun W=>Below w0.heap.size w0 W),z.w.cell? ⟨hb2,1,none⟩=some (.slice a1 n1 c1):=fun z=>(X0.o.below z.ok).at_ 1 _ (by rw[ECS.o];rfl)
 have y2:∀ z:dh (fun W=>Below w0.heap.size w0 W),z.w.cell? ⟨hb2,2,none⟩=some (.slice a2 n2 c2):=fun z=>(X0.o.below z.ok).at_ 2 _ (by rw[ECS.o];rfl)
 have y3:∀ z:dh (fun W=>Below w0.heap.size w0 W),z.w.cell? ⟨hb2,3,none⟩=some (.slice a3 n3 c3):=fun z=>(X0.o.below z.ok).at_ 3 _ (by rw[ECS.o];rfl)
 have y4:∀ z:dh (fun W=>Below w0.heap.size w0 W),z.w.cell? ⟨hb2,4,none⟩=some (.slice a4 n4 c4):=fun z=>(X0.o.below z.ok).at_ 4 _ (by rw[ECS.o];rfl)
 have y5:∀ z:dh (fun W=>Below w0.heap.size w0 W),z.w.cell? ⟨hb2,5,none⟩=some (.slice a5 n5 c5):=fun z=>(X0.o.below z.ok).at_ 5 _ (by rw[ECS.o];rfl)
 have y6:∀ z:dh (fun W=>Below w0.heap.size w0 W),z.w.cell? ⟨hb2,6,none⟩=some (.slice a6 n6 c6):=fun z=>(X0.o.below z.ok).at_ 6 _ (by rw[ECS.o];rfl)
 have y7:∀ z:dh (fun W=>Below w0.heap.size w0 W),z.w.cell? ⟨hb2,7,none⟩=some (.slice a7 n7 c7):=fun z=>(X0.o.below z.ok).at_ 7 _ (by rw[ECS.o];rfl)
 have y8:∀ z:dh (fun W=>Below w0.heap.size w0 W),z.w.cell? ⟨hb2,8,none⟩=some (.slice a8 n8 c8):=fun z=>(X0.o.below z.ok).at_ 8 _ (by rw[ECS.o];rfl)
 refine aX (C:=fun w'=>∃ z:dh (fun W=>Below w0.heap.size w0 W),w'=z.w) [3,5,6,8] [0,1,2,4] (.step 0 (.step 1 (.step 2 (.step 4 (.fork 3 (.fork 5 (.step 6 (.step 7 (.step 8 (.step 9 .leaf)))) 6 (.step 5 (.step 7 (.step 8 (.step 9 .leaf))))) 6 (.step 3 (.step 5 (.step 7 (.step 8 (.step 9 .leaf)))))))))) (fun _ _ _=>False) (by kernel_rfl) (fun _ _ _ h=>h.elim) (by kernel_rfl) ⟨⟨w0.drew,((Mod.refl (fun _=>False) w0).drew).aU⟩,rfl⟩ ?_
 haveI ne:Nonempty (dh (fun W=>Below w0.heap.size w0 W)):=⟨⟨w0,Below.refl _ _⟩⟩
 refine bM [0,1,2,4] (by kernel_rfl) ?_
 simp only[ay,nth]
 repeat (go_big_quiet_step (fail))
 refine wpQuiet_nil ?_;clear y0 y1 y2 y3 y4 y5 y6 y7 y8 ne;have D0:=zq (show Below w0.heap.size w0 w0.drew from ((Mod.refl (fun _=>False) w0).drew).aU);refine lQ ?_ ?_
 ·-- the parents first
  refine aK (by kernel_rfl) rfl (fun K hK=>?_)
  simp only[ay,nth]
  refine aA ?_;go_simp;refine (PC.o _ D0.o).mono ?_;rintro e wp ⟨pv,rfl,hpo,hpb⟩;have BP:=zq (show Below w0.heap.size w0 wp from D0.o.trans (hpb.mono D0.o.size));have PR:=zq (gU hpo);clear hpo hpb;go_simp;refine hK _ _ ⟨⟨wp,BP.o⟩,rfl⟩ ?_;clear hK;refine lQ ?_ ?_
  ·-- then those below
   refine aK (by kernel_rfl) rfl (fun K hK=>?_)
   simp only[ay,nth]
   refine aA ?_;go_simp;refine (BC.o _ pv PR.o).mono ?_;rintro e wb ⟨bv,rfl,hbo,hbb⟩;have BB:=zq (show Below w0.heap.size w0 wb from BP.o.trans (hbb.mono BP.o.size));have RB:=zq (gU hbo);clear hbo hbb;go_simp;refine hK _ _ ⟨⟨wb,BB.o⟩,rfl⟩ ?_;clear hK;refine aK (by kernel_rfl) rfl (fun K hK=>?_)
   simp only[ay,nth]
   refine aA ?_;have hmm:=@run_makeMap Tryz.prog;go_simp;clear hmm;obtain⟨wm,hwm⟩:=Zn (wb.alloc (.map #[] 0));have bm:Below wb.heap.size wb wm:=by rw[hwm];exact Zb
   have BM:=zq (show Below w0.heap.size w0 wm from BB.o.trans (bm.mono BB.o.size));have MM:=zq (show MapAt wm Tryz.prog 3 wb.heap.size L.af.length (kz L) from by rw[hwm];exact MapAt.new _ _ _ _ _);have RM:=zq (RB.o.below bm);rw[<-hwm];obtain⟨mb,hmb⟩:=Zn wb.heap.size;rw[<-hmb] at MM;have NM:=zq (show w.heap.size<=mb from by rw[hmb];exact Nat.le_trans B0.o.size BB.o.size);clear bm;refine hK _ _ ⟨⟨wm,BM.o⟩,rfl⟩ ?_;clear hK;rw[<-hmb];clear hmb hwm;obtain⟨vb,cb,eb⟩:=RM.o.form;obtain⟨nb,hnb⟩:=Zn ((ints (gI L.parents a)).length);rw[<-hnb] at eb;subst eb;clear hnb;have bd:∀ W:World,(Instr.build 184 #[(0,.agg #[.int .i64 L.day,.slice a1 n1 c1,.slice a2 n2 c2,.slice a3 n3 c3,.slice a4 n4 c4,.slice a5 n5 c5,.slice a6 n6 c6,.slice a7 n7 c7,.slice a8 n8 c8]),(1,.slice vb nb cb),(2,.map (some mb))]).run Tryz.prog W=.ok (.agg #[.int .i64 L.day,.slice a1 n1 c1,.slice a2 n2 c2,.slice a3 n3 c3,.slice a4 n4 c4,.slice a5 n5 c5,.slice a6 n6 c6,.slice a7 n7 c7,.slice a8 n8 c8,.slice vb nb cb,.map (some mb)]) W:=fun W=>by kernel_rfl
   refine aC [7] (by kernel_rfl) ?_
   simp only[ay,nth]
   repeat (go_big_quiet_step (fail))
   clear bd;refine wpQuiet_nil ?_;refine aK (by kernel_rfl) rfl (fun K hK=>?_)
   simp only[ay,nth]
   refine aA ?_;go_simp;refine hK _ _ ⟨⟨_,BM.o.alloc BM.o.size _⟩,rfl⟩ ?_;clear hK;refine aC [9] (by kernel_rfl) ?_
   simp only[ay,nth]
   repeat (go_big_quiet_step (fail))
   refine wpQuiet_nil ?_;refine bH ?_
   go_wp2_with fail
   go_ret;exact xC HL.o GR.o B0.o BM.o RM.o MM.o NM.o EV.o
  -- then the map
  refine aK (by kernel_rfl) rfl (fun K hK=>?_)
  simp only[ay,nth]
  refine aA ?_;have hmm:=@run_makeMap Tryz.prog;go_simp;clear hmm;obtain⟨wm,hwm⟩:=Zn (wp.alloc (.map #[] 0));have bm:Below wp.heap.size wp wm:=by rw[hwm];exact Zb
  have BM:=zq (show Below w0.heap.size w0 wm from BP.o.trans (bm.mono BP.o.size));have MM:=zq (show MapAt wm Tryz.prog 3 wp.heap.size L.af.length (kz L) from by rw[hwm];exact MapAt.new _ _ _ _ _);have PM:=zq (PR.o.below bm);rw[<-hwm];obtain⟨mb,hmb⟩:=Zn wp.heap.size;rw[<-hmb] at MM;have NM:=zq (show w.heap.size<=mb from by rw[hmb];exact Nat.le_trans B0.o.size BP.o.size);clear bm;refine hK _ _ ⟨⟨wm,BM.o⟩,rfl⟩ ?_;clear hK;rw[<-hmb];clear hmb hwm;refine aK (by kernel_rfl) rfl (fun K hK=>?_)
  simp only[ay,nth]
  refine aA ?_;go_simp;refine (BC.o _ pv PM.o).mono ?_;rintro e wb ⟨bv,rfl,hbo,hbb⟩;have BB:=zq (show Below w0.heap.size w0 wb from BM.o.trans (hbb.mono BM.o.size));have RB:=zq (gU hbo);have MB:=zq (MM.o.mod (Mod.of_below hbb) (fun h=>h));clear hbo hbb;go_simp;refine hK _ _ ⟨⟨wb,BB.o⟩,rfl⟩ ?_;clear hK;obtain⟨vb,cb,eb⟩:=RB.o.form;obtain⟨nb,hnb⟩:=Zn ((ints (gI L.parents a)).length);rw[<-hnb] at eb;subst eb;clear hnb;have bd:∀ W:World,(Instr.build 184 #[(0,.agg #[.int .i64 L.day,.slice a1 n1 c1,.slice a2 n2 c2,.slice a3 n3 c3,.slice a4 n4 c4,.slice a5 n5 c5,.slice a6 n6 c6,.slice a7 n7 c7,.slice a8 n8 c8]),(1,.slice vb nb cb),(2,.map (some mb))]).run Tryz.prog W=.ok (.agg #[.int .i64 L.day,.slice a1 n1 c1,.slice a2 n2 c2,.slice a3 n3 c3,.slice a4 n4 c4,.slice a5 n5 c5,.slice a6 n6 c6,.slice a7 n7 c7,.slice a8 n8 c8,.slice vb nb cb,.map (some mb)]) W:=fun W=>by kernel_rfl
  refine aC [7] (by kernel_rfl) ?_
  simp only[ay,nth]
  repeat (go_big_quiet_step (fail))
  clear bd;refine wpQuiet_nil ?_;refine aK (by kernel_rfl) rfl (fun K hK=>?_)
  simp only[ay,nth]
  refine aA ?_;go_simp;refine hK _ _ ⟨⟨_,BB.o.alloc BB.o.size _⟩,rfl⟩ ?_;clear hK;refine aC [9] (by kernel_rfl) ?_
  simp only[ay,nth]
  repeat (go_big_quiet_step (fail))
  refine wpQuiet_nil ?_;refine bH ?_
  go_wp2_with fail
  go_ret;exact xC HL.o GR.o B0.o BB.o RB.o MB.o NM.o EV.o
 -- the map first
 refine aK (by kernel_rfl) rfl (fun K hK=>?_)
 simp only[ay,nth]
 refine aA ?_;have hmm:=@run_makeMap Tryz.prog;go_simp;clear hmm;obtain⟨wm,hwm⟩:=Zn ((w0.alloc (.map #[] 0)).drew);have BM:=zq (show Below w0.heap.size w0 wm from by rw[hwm];exact (((Mod.refl (fun _=>False) w0).alloc _).drew).aU);have MM:=zq (show MapAt wm Tryz.prog 3 w0.heap.size L.af.length (kz L) from by rw[hwm];exact (MapAt.new w0 _ _ _ _).mod ((Mod.refl (fun _=>False) _).drew) (fun h=>h));rw[<-hwm];have NM:=zq (show w.heap.size<=w0.heap.size from B0.o.size);refine hK _ _ ⟨⟨wm,BM.o⟩,rfl⟩ ?_;clear hK;clear hwm;refine aK (by kernel_rfl) rfl (fun K hK=>?_)
 simp only[ay,nth]
 refine aA ?_;go_simp;refine (PC.o _ BM.o).mono ?_;rintro e wp ⟨pv,rfl,hpo,hpb⟩;have BP:=zq (show Below w0.heap.size w0 wp from BM.o.trans (hpb.mono BM.o.size));have PR:=zq (gU hpo);have MP:=zq (MM.o.mod (Mod.of_below hpb) (fun h=>h));clear hpo hpb;go_simp;refine hK _ _ ⟨⟨wp,BP.o⟩,rfl⟩ ?_;clear hK;refine aK (by kernel_rfl) rfl (fun K hK=>?_)
 simp only[ay,nth]
 refine aA ?_;go_simp;refine (BC.o _ pv PR.o).mono ?_;rintro e wb ⟨bv,rfl,hbo,hbb⟩;have BB:=zq (show Below w0.heap.size w0 wb from BP.o.trans (hbb.mono BP.o.size));have RB:=zq (gU hbo);have MB:=zq (MP.o.mod (Mod.of_below hbb) (fun h=>h));clear hbo hbb;go_simp;refine hK _ _ ⟨⟨wb,BB.o⟩,rfl⟩ ?_;clear hK;obtain⟨vb,cb,eb⟩:=RB.o.form;obtain⟨nb,hnb⟩:=Zn ((ints (gI L.parents a)).length);rw[<-hnb] at eb;subst eb;clear hnb;have bd:∀ W:World,(Instr.build 184 #[(0,.agg #[.int .i64 L.day,.slice a1 n1 c1,.slice a2 n2 c2,.slice a3 n3 c3,.slice a4 n4 c4,.slice a5 n5 c5,.slice a6 n6 c6,.slice a7 n7 c7,.slice a8 n8 c8]),(1,.slice vb nb cb),(2,.map (some w0.heap.size))]).run Tryz.prog W=.ok (.agg #[.int .i64 L.day,.slice a1 n1 c1,.slice a2 n2 c2,.slice a3 n3 c3,.slice a4 n4 c4,.slice a5 n5 c5,.slice a6 n6 c6,.slice a7 n7 c7,.slice a8 n8 c8,.slice vb nb cb,.map (some w0.heap.size)]) W:=fun W=>by kernel_rfl
 refine aC [7] (by kernel_rfl) ?_
 simp only[ay,nth]
 repeat (go_big_quiet_step (fail))
 clear bd;refine wpQuiet_nil ?_;refine aK (by kernel_rfl) rfl (fun K hK=>?_)
 simp only[ay,nth]
 refine aA ?_;go_simp;refine hK _ _ ⟨⟨_,BB.o.alloc BB.o.size _⟩,rfl⟩ ?_;clear hK;refine aC [9] (by kernel_rfl) ?_
 simp only[ay,nth]
 repeat (go_big_quiet_step (fail))
 refine wpQuiet_nil ?_;refine bH ?_
 go_wp2_with fail
 go_ret;exact xC HL.o GR.o B0.o BB.o RB.o MB.o NM.o EV.o
end Go.Proofs.YtcepekniflaoaaaGreatDoor
