/- Joined: Exam, Reck, Marg, LedIn, Wakes, GridIn. -/
import Derived.Test.YtcepekniflaoaaaGreatDoorGg
import Derived.Test.YtcepekniflaoaaaGreatDoorGa
import Derived.Test.YtcepekniflaoaaaGreatDoorGe
import Derived.Defers
import Derived.Recover
import Derived.Laws.Pointers
import Derived.Shelf.Abstract
import Derived.Test.YtcepekniflaoaaaGreatDoorRows
import Derived.LaidMore
import Derived.Lib.LaidTab
import Derived.Stop.LaidErr
import Derived.Stop.Joined
set_option linter.unusedVariables false
set_option linter.unusedSimpArgs false
set_option maxRecDepth 100000
set_option maxHeartbeats 4000000
namespace Go.Proofs.YtcepekniflaoaaaGreatDoor
open Go.RowKit Go.Bw Go.Maps Go.Shelf
theorem Lh (n c:Nat) (a:Option Addr) (W:World):(Instr.build 52 #[(0,.int .i64 (-1)),(1,.slice a n c)]).run Tryz.prog W=.ok (.agg #[.int .i64 (-1),.slice a n c,.bool false,.int .i64 0]) W:=by kernel_rfl
theorem QV (a1 a4:Option Addr) (n1 c1 n4 c4:Nat) (W:World):(Instr.build 31 #[(1,.slice a1 n1 c1),(4,.slice a4 n4 c4)]).run Tryz.prog W=.ok (.agg #[.int .i64 0,.slice a1 n1 c1,.slice none 0 0,.slice none 0 0,.slice a4 n4 c4,.slice none 0 0,.slice none 0 0,.slice none 0 0,.slice none 0 0]) W:=by kernel_rfl
structure Ou (w w':World) (H:Nat):Prop where
 c1:w'.heap[H+1]?=some (.cells #[.int .i64 1000000,.int .i64 0] 86 (0,0))
 c2:w'.heap[H+1+1]?=some (.cells #[.int .i64 0] 3 (0,0))
 c3:w'.heap[H+1+1+1]?=some (.cells #[.int .i64 0] 3 (0,0))
 c4:w'.heap[H+1+1+1+1]?=some (.cells #[.int .i64 (-1),.slice (some ⟨H+1+1,0,none⟩) 1 1,.bool false,.int .i64 0,.int .i64 (-1),.slice (some ⟨H+1+1+1,0,none⟩) 1 1,.bool false,.int .i64 0] 52 (0,0))
 low:Below H w w'
 size:w'.heap.size=H+5
theorem alloc_at (w:World) (o p:Obj) {n:Nat} {x:Obj} (h:w.heap[n]?=some x):(w.alloc o).heap[n]?=some x:=(Mod.refl (fun _=>False) w).alloc o |>.heap h (fun h=>h)
theorem qE (w:World) (o:Obj) {n:Nat} (h:n=w.heap.size):(w.alloc o).heap[n]?=some o:=by subst h;exact heap_alloc_new w o
theorem first_any (w:World) :
 Calls Tryz.prog 58 #[] w fun e w'=>e=.returned (.agg #[.int .i64 0,.slice (some ⟨w.heap.size+1,0,none⟩) 1 1,.slice none 0 0,.slice none 0 0,.slice (some ⟨w.heap.size+1+1+1+1,0,none⟩) 2 2,.slice none 0 0,.slice none 0 0,.slice none 0 0,.slice none 0 0])/\Ou w w' w.heap.size:=by
 have b1:=fun n c a W=>Lh n c a W
 have b2:=fun a1 a4 n1 c1 n4 c4 W=>QV a1 a4 n1 c1 n4 c4 W
 go_enter Tryz.func58,Tryz.ntmps58
 go_wp2_with fail
 refine bodyPost_ret (v:=.agg #[.int .i64 0,.slice (some ⟨w.heap.size+1,0,none⟩) 1 1,.slice none 0 0,.slice none 0 0,.slice (some ⟨w.heap.size+1+1+1+1,0,none⟩) 2 2,.slice none 0 0,.slice none 0 0,.slice none 0 0,.slice none 0 0]) (by simp[results,Tryz.results58,go_sem]) rfl ⟨rfl,?_⟩;refine⟨?_,?_,?_,?_,?_,by simp⟩
 ·exact alloc_at _ _ (.map #[] 0) (alloc_at _ _ (.map #[] 0) (alloc_at _ _ (.map #[] 0) (qE _ _ (by simp))))
 ·exact alloc_at _ _ (.map #[] 0) (alloc_at _ _ (.map #[] 0) (qE _ _ (by simp)))
 ·exact alloc_at _ _ (.map #[] 0) (qE _ _ (by simp))
 ·exact qE _ _ (by simp)
 exact ((((Zb).alloc (by simp) _).alloc (by simp;omega) _).alloc (by simp;omega) _).alloc (by simp;omega) _
theorem Q5 (s:ByteArray) (p:Int) (W:World):(Instr.build 48 #[(0,.string s),(2,.int .i64 p)]).run Tryz.prog W=.ok (.agg #[.string s,.int .i64 0,.int .i64 p,.int .i64 0]) W:=by kernel_rfl
theorem Na:(Tryz.prog.info? 52).map (fun i=>(i.zero,i.size,i.bytes))=some (some (.agg #[.int .i64 0,.slice none 0 0,.bool false,.int .i64 0]),4,48):=by kernel_rfl
def PG (H T:Nat) (c4 c5 c6 c7:Value):Array Value:=#[.int .i64 0,.slice (some ⟨H+1+1,0,none⟩) 1 1,.slice (some ⟨T+1,0,none⟩) 1 1,.slice (some ⟨T+1+1,0,none⟩) 1 1,c4,c5,c6,c7,.slice none 0 0]
structure IZ (w:World) (H T:Nat) (c4 c5 c6 c7:Value):Prop where
 t:w.heap[T]?=some (.cells (PG H T c4 c5 c6 c7) 31 (0,0))
 cu:w.heap[H+1+1]?=some (.cells #[.int .i64 1000000,.int .i64 0] 86 (0,0))
 k0:w.heap[H+1+1+1]?=some (.cells #[.int .i64 0] 3 (0,0))
 k1:w.heap[H+1+1+1+1]?=some (.cells #[.int .i64 0] 3 (0,0))
 un:w.heap[T+1]?=some (.cells #[.string ⟨#[65]⟩,.int .i64 0,.int .i64 100,.int .i64 0] 48 (0,0))
 ins:w.heap[T+1+1]?=some (.cells #[.int .i64 1,.int .i64 0,.int .i64 1,.int .i64 0,.int .i64 0,.bool false,.int .i64 100] 66 (0,0))
 ht:T=H+6
theorem IZ.mod {w w':World} {H T:Nat} {c4 c5 c6 c7:Value} {S:Nat->Prop} (h:IZ w H T c4 c5 c6 c7) (hm:Mod S w w') (hS:∀ k,S k->k=H+1+1+1+1+1\/T+1+1<k\/k=H):IZ w' H T c4 c5 c6 c7:=by
 have ht:=h.ht;have g:∀ k,k≠H+1+1+1+1+1->k<=T+1+1/\H<k->¬ S k:=fun k h1 h2 h3=>by rcases hS k h3 with e|e|e <;> omega
 exact⟨hm.heap h.t (g _ (by omega) (by omega)),hm.heap h.cu (g _ (by omega) (by omega)),hm.heap h.k0 (g _ (by omega) (by omega)),hm.heap h.k1 (g _ (by omega) (by omega)),hm.heap h.un (g _ (by omega) (by omega)),hm.heap h.ins (g _ (by omega) (by omega)),ht⟩
theorem IZ.set {w:World} {H T:Nat} {c4 c5 c6 c7:Value} (h:IZ w H T c4 c5 c6 c7) (o:Nat) (v:Value) {d4 d5 d6 d7:Value} (he:(PG H T c4 c5 c6 c7).setIfInBounds o v=PG H T d4 d5 d6 d7):IZ (w.setCell ⟨T,o,none⟩ v) H T d4 d5 d6 d7:=by
 have ht:=h.ht;have g:∀ k,k≠T->(w.setCell ⟨T,o,none⟩ v).heap[k]?=w.heap[k]?:=fun k hk=>iL hk
 refine⟨?_,(g _ (by omega)).trans h.cu,(g _ (by omega)).trans h.k0,(g _ (by omega)).trans h.k1,(g _ (by omega)).trans h.un,(g _ (by omega)).trans h.ins,ht⟩;rw[<-he];exact bC h.t o v
theorem row_one {α:Type} {w:World} {n:Nat} {f:α->List Value} {b:Nat} {cs:Array Value} {T:TypeId} {fr:Nat×Nat} {x:α} (h:w.heap[b]?=some (.cells cs T fr)) (hc:cs.toList=f x):RowOf w n f (.slice (some ⟨b,0,none⟩) 1 1) [x]:=by
 refine⟨_,1,rfl,Nat.le_refl _,by unfold maxLen;omega,(fun h=>by cases h),fun i y hi=>⟨b,0,rfl,lt_of_heap h,fun j u hj=>?_⟩⟩;have hi0:i=0:=by have:=(List.getElem?_eq_some_iff.1 hi).1;simpa using this
 subst hi0;cases hi;rw[cell_of_heap h,show 0+0*n+j=j by omega];rw[<-hc] at hj
 simpa using hj
theorem IK {α:Type} {w:World} {n:Nat} {f:α->List Value}:RowOf w n f (.slice none 0 0) ([]:List α):=⟨none,0,rfl,Nat.le_refl _,Nat.zero_le _,fun _=>rfl,fun i x hi=>by simp at hi⟩
end Go.Proofs.YtcepekniflaoaaaGreatDoor
namespace Go.Proofs.YtcepekniflaoaaaGreatDoor
open Go.RowKit Go.Bw Go.Maps Go.Shelf Go.Bw.Fall
theorem Cj (p:Value) (w:World):Calls Tryz.prog 174 #[p,.nilIface] w fun e w'=>e=.returned (.tuple #[])/\w=w':=by
 go_enter Tryz.func174,Tryz.ntmps174
 go_wp2_with fail
 go_end0
 exact⟨rfl,rfl⟩
theorem ET {S:Nat->Prop} {w w':World} (h:Mod S w w') {b:Nat} {cs:Array Value} {t:TypeId} (hb:w.heap[b]?=some (.cells cs t (0,0))) (hS:¬ S b) (o:Nat):w'.frozen? ⟨b,o,none⟩=false:=aP (h.heap hb hS) o
theorem Af (p:Nat) (er x:Int) (T:TypeId) (w:World) (hp:w.heap[p]?=some (.cells #[.int .i64 x] T (0,0))) :
 Calls Tryz.prog 174 #[.pointer (some ⟨p,0,none⟩),.iface 187 (.agg #[.int .i64 er])] w fun e w'=>e=.returned (.tuple #[])/\w'.heap[p]?=some (.cells #[.int .i64 er] T (0,0))/\Mod (fun k=>k=p) w w':=by
 have hta:∀ (W:World) (v:Value),(Instr.typeAssert (.iface 187 v) 20 187 true).run Tryz.prog W=.ok (.tuple #[v,.bool true]) W:=fun W v=>by kernel_rfl
 have M0:=(Mod.refl (fun _=>False) w).alloc (.cells #[.int .i64 er] 187);have c1:=cell_of_heap (M0.heap hp (fun h=>h)) 0;have z1:=ET M0 hp (fun h=>h) 0;have HP:=zq hp;clear hp M0
 go_enter Tryz.func174,Tryz.ntmps174
 go_wp2_with fail
 go_end0
 refine⟨rfl,?_,(((Mod.refl (fun k=>k=p) w).alloc _).setCell _ (fun _=>rfl))⟩;have:=bC (((Mod.refl (fun _=>False) w).alloc (.cells #[.int .i64 er] 187)).heap HP.o (fun h=>h)) 0 (.int .i64 er)
 simpa using this
theorem Dt (pe px:Nat) (w:World) (he:w.cell? ⟨pe,0,none⟩=some (.int .i64 0)) :
 CallsD Tryz.prog 173 #[.pointer (some ⟨pe,0,none⟩),.pointer (some ⟨px,0,none⟩)] .returning w fun e u' w'=>e=.returned (.tuple #[])/\u'=.returning/\w'=w:=by
 refine callsD_of_wpS Tryz.func173 rfl fun c₀ cs hu=>?_
 apply wpS_seq
 apply wpS_region
 simp[wpOpsS,go_sem,recoverD,hu,Tryz.ntmps173,Exit.thenS];refine (Cj _ w).mono ?_;rintro e w' ⟨rfl,rfl⟩
 apply wpS_seq
 apply wpS_region
 simp[wpOpsS,go_sem,he,Exit.thenS];refine wpS_cond (t:=false) (by simp[Act.eval]) ?_
 simp only[Bool.false_eq_true,if_false]
 refine wpS_of_wp (wp_skip ?_)
 cases c₀
 simp_all [bodyPostS,results,Tryz.results173]
structure Ec (w:World) (px pe:Nat) (x e:Int):Prop where
 a:w.heap[px]?=some (.cells #[.int .i64 x] 3 (0,0))
 b:w.heap[pe]?=some (.cells #[.int .i64 e] 35 (0,0))
theorem Ec.mod {w w':World} {px pe:Nat} {x e:Int} (h:Ec w px pe x e) {S:Nat->Prop} (hm:Mod S w w') (h1:¬ S px) (h2:¬ S pe):Ec w' px pe x e:=⟨hm.heap h.a h1,hm.heap h.b h2⟩
theorem Ec.set {w:World} {px pe:Nat} {x e:Int} (h:Ec w px pe x e) (hn:pe=px+1) (y f:Int):Ec ((w.setCell ⟨px,0,none⟩ (.int .i64 y)).setCell ⟨pe,0,none⟩ (.int .i64 f)) px pe y f:=by
 subst hn;have h1:=bC h.a 0 (.int .i64 y);have h2:(w.setCell ⟨px,0,none⟩ (.int .i64 y)).heap[px+1]?=_:=(Below.heap_setCell w ⟨px,0,none⟩ (.int .i64 y) (px+1) (by simp)).trans h.b;have h3:=bC h2 0 (.int .i64 f);exact⟨(Below.heap_setCell _ ⟨px+1,0,none⟩ (.int .i64 f) px (by simp)).trans (by simpa using h1),by simpa using h3⟩
theorem nD (px pe:Nat) (hn:pe=px+1) (w:World) (er:Int) (her:er≠0) (x y:Int) (h:Ec w px pe x y) :
 CallsD Tryz.prog 173 #[.pointer (some ⟨pe,0,none⟩),.pointer (some ⟨px,0,none⟩)] (.panicking (lg er)) w fun e u' w'=>e=.returned (.tuple #[])/\u'=.panicking [{ v:=.iface 187 (.agg #[.int .i64 er]),recovered:=true }]/\Ec w' px pe 0 er/\Mod (fun k=>k=px\/k=pe) w w':=by
 subst hn;unfold lg;have her':(er != 0)=true:=by rw[bne_iff_ne];exact her
 clear her;refine callsD_of_wpS Tryz.func173 rfl fun c₀ cs hu=>?_
 apply wpS_seq
 apply wpS_region
 simp[wpOpsS,go_sem,recoverD,hu,Tryz.ntmps173,Exit.thenS];refine (Af (px+1) er y _ w h.b).mono ?_;rintro e w2 ⟨rfl,he2,hm2⟩;have a2:=hm2.heap h.a (by omega);have ce:=cell_of_heap he2 0;have c1:=cell_of_heap a2 0;have z1:=aP a2 0
 apply wpS_seq
 apply wpS_region
 simp[wpOpsS,go_sem,ce,her',Exit.thenS];refine wpS_cond (t:=true) (by simp[Act.eval]) ?_
 simp only[if_true]
 apply wpS_region
 simp[wpOpsS,go_sem,c1,z1,bodyPostS,results,Tryz.results173];refine⟨⟨?_,?_⟩,(hm2.mono (T:=fun k=>k=px\/k=px+1) (fun k _ h=>Or.inr h)).setCell _ (fun _=>Or.inl rfl)⟩
 ·have:=bC a2 0 (.int .i64 0)
  simpa using this
 exact (Below.heap_setCell w2 ⟨px,0,none⟩ (.int .i64 0) (px+1) (by simp)).trans he2
def Oq (r:Int×Int) (e:Ending):Prop:=(r.2=0/\e=.returned (.int .i64 r.1))\/(r.2≠0/\r.1=0/\e=.panicked (lg r.2))
theorem Oq.of {o:Option Int} {e:Ending} (h:jL o e):Oq (retA o) e:=by
 rcases h with ⟨x,rfl,rfl⟩|⟨rfl,rfl⟩
 ·exact Or.inl ⟨rfl,rfl⟩
 exact Or.inr ⟨by decide,rfl,rfl⟩
def Asks (w:World) (V:aB) (L:aH) (a g:Nat) (lb:Array Value) (r:Int×Int):Prop :=
 ∀ (W:World) (b mb:Nat) (bv:Value),dO W b mb bv V L a->w.heap.size<=mb->Below w.heap.size w W->Calls Tryz.prog g (#[.pointer (some ⟨b,0,none⟩)]++lb) W fun e w'=>Oq r e/\Mod (fun k=>k=mb) W w'
theorem Am (w:World) (B:Nat) (o:Obj) (h:B=(w.alloc o).heap.size):Ec (((w.alloc o).alloc (.cells #[.int .i64 0] 3)).alloc (.cells #[.int .i64 0] 35)) B (B+1) 0 0:=by
 subst h;have h1:=heap_alloc_new (w.alloc o) (.cells #[.int .i64 0] 3);have h2:=heap_alloc_new ((w.alloc o).alloc (.cells #[.int .i64 0] 3)) (.cells #[.int .i64 0] 35);exact⟨((Mod.refl (fun _=>False) _).alloc _).heap h1 (fun h=>h),by simpa using h2⟩
theorem Gq (w:World) (V:aB) (L:aH) (h:bK w V L) (hL:L.ai.length<=1024) (hng:¬ L.Good) (ak:Int) (g:Nat) (lb:Array Value) :
 Calls Tryz.prog 151 #[V.val L,.int .i64 ak,.func (.func g) #[] lb] w fun e w'=>e=.returned (.tuple #[.int .i64 0,.int .i64 43])/\Below w.heap.size w w':=by
 have LK:=zq (fun W (hb:Below w.heap.size w W)=>Nk W V L (h.below hb) hL hng ak);obtain⟨a1,c1,a2,c2,a3,c3,a4,c4,a5,c5,a6,c6,a7,c7,a8,c8,e1,e2,e3,e4,e5,e6,e7,e8⟩:=bK.opened h;unfold aB.val aB.cells at LK ⊢;rw[e1,e2,e3,e4,e5,e6,e7,e8] at LK ⊢;obtain⟨n1,hn1⟩:=Zn L.aQ.length;obtain⟨n2,hn2⟩:=Zn L.ah.length;obtain⟨n3,hn3⟩:=Zn L.af.length;obtain⟨n4,hn4⟩:=Zn L.ai.length;obtain⟨n5,hn5⟩:=Zn L.au.length;obtain⟨n6,hn6⟩:=Zn L.orders.length;obtain⟨n7,hn7⟩:=Zn L.aG.length;obtain⟨n8,hn8⟩:=Zn L.aJ.length;rw[<-hn1,<-hn2,<-hn3,<-hn4,<-hn5,<-hn6,<-hn7,<-hn8] at LK ⊢;clear h hL hng e1 e2 e3 e4 e5 e6 e7 e8 hn1 hn2 hn3 hn4 hn5 hn6 hn7 hn8
 go_enter_defers Tryz.func151,Tryz.ntmps151
 go_wp2_with fail
 obtain⟨W0,hW0⟩:=Zn ((((w.alloc (.cells #[.int .i64 L.day,.slice a1 n1 c1,.slice a2 n2 c2,.slice a3 n3 c3,.slice a4 n4 c4,.slice a5 n5 c5,.slice a6 n6 c6,.slice a7 n7 c7,.slice a8 n8 c8] 31)).alloc (.cells #[.int .i64 0] 3)).alloc (.cells #[.int .i64 0] 35)));have R0:=zq (show Ec W0 (w.heap.size+1) (w.heap.size+1+1) 0 0/\Below w.heap.size w W0/\w.heap.size+1+1<W0.heap.size from by
  rw[hW0];exact⟨Am w _ _ (by simp),((Zb).alloc (by simp) _).alloc (by simp;omega) _,by simp⟩)
 rw[<-hW0];obtain⟨px,hpx⟩:=Zn (w.heap.size+1);rw[<-hpx] at R0 ⊢;have PX:=zq (show w.heap.size<px from by omega);clear hW0 hpx;refine (LK.o W0 R0.o.2.1).mono ?_;rintro e w1 ⟨rfl,hb⟩;have R1:=zq (show Ec w1 px (px+1) 0 0/\Below w.heap.size w w1 from ⟨R0.o.1.mod (Mod.of_below hb) (fun h=>h) (fun h=>h),R0.o.2.1.trans (hb.mono R0.o.2.1.size)⟩);clear hb
 go_wp2_with fail
 refine leaves_cons (f := 173) (args:=#[.pointer (some ⟨px+1,0,none⟩),.pointer (some ⟨px,0,none⟩)]) (by simp) (by simp[go_sem]) ?_;refine (nD px (px+1) rfl _ 43 (by first|decide|exact her) 0 0 R1.o.1).mono ?_;rintro e u' w9 ⟨rfl,rfl,R9,m9⟩;have j0:=cell_of_heap R9.a 0;have j1:=cell_of_heap R9.b 0;have B9:=zq (show Below w.heap.size w w9 from ((Mod.of_below R1.o.2).trans m9 (fun k hk h=>by have:=PX.o;omega)).aU);clear m9;simp[Leaves,settle,results,Tryz.results151,go_sem,j0,j1];exact B9.o
theorem Gs (w:World) (V:aB) (L:aH) (h:bK w V L) (hL:L.ai.length<=1024) (hgd:L.Good) (ak:Int) (ho:ak<0\/(L.ai.length:Int)<=ak) (g:Nat) (lb:Array Value) :
 Calls Tryz.prog 151 #[V.val L,.int .i64 ak,.func (.func g) #[] lb] w fun e w'=>e=.returned (.tuple #[.int .i64 0,.int .i64 33])/\Below w.heap.size w w':=by
 have LK:=zq (fun W (hb:Below w.heap.size w W)=>Nl W V L (h.below hb) hL hgd ak ho);obtain⟨a1,c1,a2,c2,a3,c3,a4,c4,a5,c5,a6,c6,a7,c7,a8,c8,e1,e2,e3,e4,e5,e6,e7,e8⟩:=bK.opened h;unfold aB.val aB.cells at LK ⊢;rw[e1,e2,e3,e4,e5,e6,e7,e8] at LK ⊢;obtain⟨n1,hn1⟩:=Zn L.aQ.length;obtain⟨n2,hn2⟩:=Zn L.ah.length;obtain⟨n3,hn3⟩:=Zn L.af.length;obtain⟨n4,hn4⟩:=Zn L.ai.length;obtain⟨n5,hn5⟩:=Zn L.au.length;obtain⟨n6,hn6⟩:=Zn L.orders.length;obtain⟨n7,hn7⟩:=Zn L.aG.length;obtain⟨n8,hn8⟩:=Zn L.aJ.length;rw[<-hn1,<-hn2,<-hn3,<-hn4,<-hn5,<-hn6,<-hn7,<-hn8] at LK ⊢;clear h hL hgd ho e1 e2 e3 e4 e5 e6 e7 e8 hn1 hn2 hn3 hn4 hn5 hn6 hn7 hn8
 go_enter_defers Tryz.func151,Tryz.ntmps151
 go_wp2_with fail
 obtain⟨W0,hW0⟩:=Zn ((((w.alloc (.cells #[.int .i64 L.day,.slice a1 n1 c1,.slice a2 n2 c2,.slice a3 n3 c3,.slice a4 n4 c4,.slice a5 n5 c5,.slice a6 n6 c6,.slice a7 n7 c7,.slice a8 n8 c8] 31)).alloc (.cells #[.int .i64 0] 3)).alloc (.cells #[.int .i64 0] 35)));have R0:=zq (show Ec W0 (w.heap.size+1) (w.heap.size+1+1) 0 0/\Below w.heap.size w W0/\w.heap.size+1+1<W0.heap.size from by
  rw[hW0];exact⟨Am w _ _ (by simp),((Zb).alloc (by simp) _).alloc (by simp;omega) _,by simp⟩)
 rw[<-hW0];obtain⟨px,hpx⟩:=Zn (w.heap.size+1);rw[<-hpx] at R0 ⊢;have PX:=zq (show w.heap.size<px from by omega);clear hW0 hpx;refine (LK.o W0 R0.o.2.1).mono ?_;rintro e w1 ⟨rfl,hb⟩;have R1:=zq (show Ec w1 px (px+1) 0 0/\Below w.heap.size w w1 from ⟨R0.o.1.mod (Mod.of_below hb) (fun h=>h) (fun h=>h),R0.o.2.1.trans (hb.mono R0.o.2.1.size)⟩);clear hb
 go_wp2_with fail
 refine leaves_cons (f := 173) (args:=#[.pointer (some ⟨px+1,0,none⟩),.pointer (some ⟨px,0,none⟩)]) (by simp) (by simp[go_sem]) ?_;refine (nD px (px+1) rfl _ 33 (by first|decide|exact her) 0 0 R1.o.1).mono ?_;rintro e u' w9 ⟨rfl,rfl,R9,m9⟩;have j0:=cell_of_heap R9.a 0;have j1:=cell_of_heap R9.b 0;have B9:=zq (show Below w.heap.size w w9 from ((Mod.of_below R1.o.2).trans m9 (fun k hk h=>by have:=PX.o;omega)).aU);clear m9;simp[Leaves,settle,results,Tryz.results151,go_sem,j0,j1];exact B9.o
theorem JW (w:World) (V:aB) (L:aH) (h:bK w V L) (hgd:L.Good) (hGr:rF w) (a:Nat) (ha:a<L.ai.length) (g:Nat) (lb:Array Value) (hg:Enters Tryz.prog g) (r:Int×Int) (hr:Asks w V L a g lb r) :
 Calls Tryz.prog 151 #[V.val L,.int .i64 (a:Int),.func (.func g) #[] lb] w fun e w'=>e=.returned (.tuple #[.int .i64 r.1,.int .i64 r.2])/\Below w.heap.size w w':=by
 have LK:=zq (fun W (hb:Below w.heap.size w W)=>look_ok W V L (h.below hb) hgd (hGr.below hb) a ha);have EG:=zq hg;have HR:=zq hr;obtain⟨a1,c1,a2,c2,a3,c3,a4,c4,a5,c5,a6,c6,a7,c7,a8,c8,e1,e2,e3,e4,e5,e6,e7,e8⟩:=bK.opened h;unfold aB.val aB.cells at LK ⊢;rw[e1,e2,e3,e4,e5,e6,e7,e8] at LK ⊢;obtain⟨n1,hn1⟩:=Zn L.aQ.length;obtain⟨n2,hn2⟩:=Zn L.ah.length;obtain⟨n3,hn3⟩:=Zn L.af.length;obtain⟨n4,hn4⟩:=Zn L.ai.length;obtain⟨n5,hn5⟩:=Zn L.au.length;obtain⟨n6,hn6⟩:=Zn L.orders.length;obtain⟨n7,hn7⟩:=Zn L.aG.length;obtain⟨n8,hn8⟩:=Zn L.aJ.length;rw[<-hn1,<-hn2,<-hn3,<-hn4,<-hn5,<-hn6,<-hn7,<-hn8] at LK ⊢;clear h hgd hGr ha e1 e2 e3 e4 e5 e6 e7 e8 hn1 hn2 hn3 hn4 hn5 hn6 hn7 hn8 hr hg
 go_enter_defers Tryz.func151,Tryz.ntmps151
 go_wp2_with fail
 obtain⟨W0,hW0⟩:=Zn ((((w.alloc (.cells #[.int .i64 L.day,.slice a1 n1 c1,.slice a2 n2 c2,.slice a3 n3 c3,.slice a4 n4 c4,.slice a5 n5 c5,.slice a6 n6 c6,.slice a7 n7 c7,.slice a8 n8 c8] 31)).alloc (.cells #[.int .i64 0] 3)).alloc (.cells #[.int .i64 0] 35)));have R0:=zq (show Ec W0 (w.heap.size+1) (w.heap.size+1+1) 0 0/\Below w.heap.size w W0/\w.heap.size+1+1<W0.heap.size from by
  rw[hW0];exact⟨Am w _ _ (by simp),((Zb).alloc (by simp) _).alloc (by simp;omega) _,by simp⟩)
 rw[<-hW0];obtain⟨px,hpx⟩:=Zn (w.heap.size+1);rw[<-hpx] at R0 ⊢;have PX:=zq (show w.heap.size<px from by omega);clear hW0 hpx;refine (LK.o W0 R0.o.2.1).mono ?_;rintro e w1 ⟨b,mb,bv,rfl,hs,hb,hmb⟩;have R1:=zq (show Ec w1 px (px+1) 0 0/\Below w.heap.size w w1 from ⟨R0.o.1.mod (Mod.of_below hb) (fun h=>h) (fun h=>h),R0.o.2.1.trans (hb.mono R0.o.2.1.size)⟩);have NM:=zq (show w.heap.size<=mb/\px+1<mb from ⟨Nat.le_trans R0.o.2.1.size hmb,Nat.lt_of_lt_of_le R0.o.2.2 hmb⟩);have CALL:=zq (HR.o w1 b mb bv hs NM.o.1 R1.o.2);have eg:∀ (args:Array Value) (w:World),(callFunc g args).run Tryz.prog w=.ok (.enter g args) w:=EG.o;clear hs hb hmb
 go_wp2_with fail
 refine CALL.o.mono ?_;rintro e w2 ⟨ho,hm⟩;have R2:=zq (show Ec w2 px (px+1) 0 0/\Below w.heap.size w w2 from ⟨R1.o.1.mod hm (by have:=NM.o;omega) (by have:=NM.o;omega),((Mod.of_below R1.o.2).trans hm (fun k hk h=>by have:=NM.o;omega)).aU⟩);clear hm eg;rcases ho with ⟨hz,rfl⟩|⟨hz,hz1,rfl⟩
 ·have HZ:=zq hz;clear hz;have k0:=cell_of_heap R2.o.1.a 0;have k1:=cell_of_heap R2.o.1.b 0;have z0:=aP R2.o.1.a 0;have z1:=aP R2.o.1.b 0
  go_wp2_with fail
  have RS:=R2.o.1.set rfl r.1 0;have BS:=zq (show Below w.heap.size w ((w2.setCell ⟨px,0,none⟩ (.int .i64 r.1)).setCell ⟨px+1,0,none⟩ (.int .i64 0)) from (R2.o.2.setCell (by have:=PX.o;show w.heap.size<=px;omega) _).setCell (by have:=PX.o;show w.heap.size<=px+1;omega) _);obtain⟨w3,hw3⟩:=Zn ((w2.setCell ⟨px,0,none⟩ (.int .i64 r.1)).setCell ⟨px+1,0,none⟩ (.int .i64 0));rw[<-hw3] at RS BS ⊢;clear hw3 k0 k1 z0 z1;have j0:=cell_of_heap RS.a 0;have j1:=cell_of_heap RS.b 0;have E2:=HZ.o;refine leaves_cons (f := 173) (args:=#[.pointer (some ⟨px+1,0,none⟩),.pointer (some ⟨px,0,none⟩)]) (by simp) (by simp[go_sem]) ?_;refine (Dt (px+1) px w3 j1).mono ?_;rintro e u' w9 ⟨rfl,rfl,rfl⟩;simp[Leaves,settle,results,Tryz.results151,go_sem,j0,j1];exact⟨E2.symm,BS.o⟩
 have HZ:=zq (And.intro hz hz1);clear hz hz1;obtain⟨er,her⟩:=Zn r.2;have ER:=zq her;rw[<-her];clear her
 go_wp2_with fail
 refine leaves_cons (f := 173) (args:=#[.pointer (some ⟨px+1,0,none⟩),.pointer (some ⟨px,0,none⟩)]) (by simp) (by simp[go_sem]) ?_;refine (nD px (px+1) rfl _ er (by first|decide|exact (by rw[ER.o];exact HZ.o.1)) 0 0 R2.o.1).mono ?_;rintro e u' w9 ⟨rfl,rfl,R9,m9⟩;have j0:=cell_of_heap R9.a 0;have j1:=cell_of_heap R9.b 0;have B9:=zq (show Below w.heap.size w w9 from ((Mod.of_below R2.o.2).trans m9 (fun k hk h=>by have:=PX.o;omega)).aU);clear m9;simp[Leaves,settle,results,Tryz.results151,go_sem,j0,j1];exact⟨⟨HZ.o.2.symm,ER.o⟩,B9.o⟩
theorem Fb {L:aH} {a:Nat} {x:Int} (h:vH L a=some x):aO x=true:=by
 have go:∀ (cs:List gu) (n:Nat) (x y:Int),aO x=true->jD L a n cs x=some y->aO y=true:=by
  intro cs
  induction cs with
  | nil=>intro n x y hx h;cases h;exact hx
  | cons c r ih =>
    intro n x y hx h;unfold jD at h;rw[Option.bind_eq_some_iff] at h;obtain⟨k,_,h⟩:=h;rw[Option.bind_eq_some_iff] at h;obtain⟨b,_,h⟩:=h;rw[Option.bind_eq_some_iff] at h;obtain⟨z,hz,h⟩:=h;obtain⟨rfl,_,_,hf⟩:=yR.1 hz;exact ih (n+1) _ y hf h
 exact go _ _ _ _ (by decide) h
theorem Fv {L:aH} {a:Nat} {x:Int} (h:pI L a=some x):aO x=true:=by
 have go:∀ (cs:List dX) (n:Nat) (x y:Int),aO x=true->jF L a n cs x=some y->aO y=true:=by
  intro cs
  induction cs with
  | nil=>intro n x y hx h;cases h;exact hx
  | cons c r ih =>
    intro n x y hx h;unfold jF at h;rw[Option.bind_eq_some_iff] at h;obtain⟨k,_,h⟩:=h;rw[Option.bind_eq_some_iff] at h;obtain⟨b,_,h⟩:=h;rw[Option.bind_eq_some_iff] at h;obtain⟨z,hz,h⟩:=h;obtain⟨rfl,_,_,hf⟩:=yR.1 hz;exact ih (n+1) _ y hf h
 exact go _ _ _ _ (by decide) h
theorem Bo (w:World) (b mb:Nat) (bv:Value) (V:aB) (L:aH) (a:Nat) (hS:dO w b mb bv V L a) (hg:L.Good) :
 Calls Tryz.prog 152 #[.pointer (some ⟨b,0,none⟩)] w (lq w b mb bv V L a (dN L a)):=by
 have HV:=zq (LV w b mb bv V L a hS hg);have ND:=zq (fun W (hW:dO W b mb bv V L a)=>Nw W b mb bv V L a hW hg);obtain⟨R,hR⟩:=Zn (dN L a);rw[<-hR];have EQ:=zq hR;clear hS hg hR
 go_enter Tryz.func152,Tryz.ntmps152
 go_wp2_with fail
 refine HV.o.mono ?_;rintro e w1 ⟨ho,ht⟩;have T1:=zq ht;clear ht;rcases Or.symm ho with ⟨hx,rfl⟩|⟨x,hx,rfl⟩
 ·have HX:=zq hx;clear hx
  go_wp2_with fail
  exact⟨rfl,jL.none_ (by rw[EQ.o];unfold dN;rw[HX.o];rfl),T1.o⟩
 have HX:=zq hx;clear hx
 go_wp2_with fail
 refine (ND.o _ T1.o.s).mono ?_;rintro e w2 ⟨ho,ht⟩;have T2:=zq (T1.o.trans ht);clear ht;rcases Or.symm ho with ⟨hy,rfl⟩|⟨y,hy,rfl⟩
 ·have HY:=zq hy;clear hy
  go_wp2_with fail
  exact⟨rfl,jL.none_ (by rw[EQ.o];unfold dN;rw[HX.o];show (pI L a).bind _=none;rw[HY.o];rfl),T2.o⟩
 have HY:=zq hy;clear hy;have FS:=zq (fun W=>nP x y (I64.bU (Fb HX.o)) (I64.bU (Fv HY.o)) W);have SE:=zq (qZ x y);have SO:=zq (show R=iG (fK x y) from by rw[EQ.o];unfold dN;rw[HX.o];show (pI L a).bind _=_;rw[HY.o];rfl);obtain⟨SR,hSR⟩:=Zn (fK x y);rw[<-hSR] at FS SE SO;clear hSR
 go_wp2_with fail
 refine (FS.o _).mono ?_;rintro e w' ⟨rfl,rfl⟩
 go_wp2_with fail
 refine (jc SR (yY SE.o) _).mono ?_;rintro e w' ⟨ho,rfl⟩;rcases Or.symm ho with ⟨hz,rfl⟩|⟨z,hz,rfl⟩
 ·have HZ:=zq hz;clear hz
  go_wp2_with fail
  exact⟨rfl,jL.none_ (SO.o.trans HZ.o),T2.o⟩
 have HZ:=zq hz;clear hz
 go_wp2_with fail
 go_ret;exact⟨jL.some_ (SO.o.trans HZ.o),T2.o⟩
theorem AY (w:World) (V:aB) (L:aH) (a:Nat) (hg:L.Good):Asks w V L a 152 #[] (retA (dN L a)):=fun W b mb bv hS _ _ =>
 (Bo W b mb bv V L a hS hg).mono fun e w' h=>⟨Oq.of h.1,h.2.m⟩
noncomputable def pR (L:aH) (ak:Int) (r:Int×Int):Int×Int:=by
 classical
 exact if L.Good then (if ak<0\/(L.ai.length:Int)<=ak then (0,33) else r) else (0,43)
theorem KZ {L:aH} {ak:Int} {r:Int×Int} (h:¬ L.Good):pR L ak r=(0,43):=by unfold pR;rw[if_neg h]
theorem La {L:aH} {ak:Int} {r:Int×Int} (h:L.Good) (ho:ak<0\/(L.ai.length:Int)<=ak):pR L ak r=(0,33):=by unfold pR;rw[if_pos h,if_pos ho]
theorem Ii {L:aH} {ak:Int} {r:Int×Int} (h:L.Good) (ho:¬ (ak<0\/(L.ai.length:Int)<=ak)):pR L ak r=r:=by unfold pR;rw[if_pos h,if_neg ho]
theorem Gp (w:World) (V:aB) (L:aH) (h:bK w V L) (hL:L.ai.length<=1024) (hGr:rF w) (ak:Int) (g:Nat) (lb:Array Value) (hg:Enters Tryz.prog g) (r:Int×Int) (hr:L.Good->∀ a:Nat,ak=a->a<L.ai.length->Asks w V L a g lb r) :
 Calls Tryz.prog 151 #[V.val L,.int .i64 ak,.func (.func g) #[] lb] w fun e w'=>e=.returned (.tuple #[.int .i64 (pR L ak r).1,.int .i64 (pR L ak r).2])/\Below w.heap.size w w':=by
 by_cases hgd:L.Good
 ·by_cases ho:ak<0\/(L.ai.length:Int)<=ak
  ·rw[La hgd ho];exact Gs w V L h hL hgd ak ho g lb
  rw[Ii hgd ho];obtain⟨a,rfl⟩:=Int.eq_ofNat_of_zero_le (show 0<=ak by omega);exact JW w V L h hgd hGr a (by omega) g lb hg r (hr hgd a rfl (by omega))
 rw[KZ hgd];exact Gq w V L h hL hgd ak g lb
theorem Cm (w:World) (V:aB) (L:aH) (h:bK w V L) (hL:L.ai.length<=1024) (hGr:rF w) (ak:Int) :
 Calls Tryz.prog 109 #[V.val L,.int .i64 ak] w fun e w'=>e=.returned (.tuple #[.int .i64 (pR L ak (retA (dN L ak.toNat))).1,.int .i64 (pR L ak (retA (dN L ak.toNat))).2])/\Below w.heap.size w w':=by
 have RK:=zq (fun W (hb:Below w.heap.size w W)=>Gp W V L (h.below hb) hL (hGr.below hb) ak 152 #[] (enters_of Tryz.func152 (by kernel_rfl) rfl) (retA (dN L ak.toNat)) (fun hg a ha _=>by subst ha;exact AY W V L a hg));obtain⟨R,hR⟩:=Zn (pR L ak (retA (dN L ak.toNat)));rw[<-hR] at RK ⊢;obtain⟨a1,c1,a2,c2,a3,c3,a4,c4,a5,c5,a6,c6,a7,c7,a8,c8,e1,e2,e3,e4,e5,e6,e7,e8⟩:=bK.opened h;unfold aB.val aB.cells at RK ⊢;rw[e1,e2,e3,e4,e5,e6,e7,e8] at RK ⊢;obtain⟨n1,hn1⟩:=Zn L.aQ.length;obtain⟨n2,hn2⟩:=Zn L.ah.length;obtain⟨n3,hn3⟩:=Zn L.af.length;obtain⟨n4,hn4⟩:=Zn L.ai.length;obtain⟨n5,hn5⟩:=Zn L.au.length;obtain⟨n6,hn6⟩:=Zn L.orders.length;obtain⟨n7,hn7⟩:=Zn L.aG.length;obtain⟨n8,hn8⟩:=Zn L.aJ.length;rw[<-hn1,<-hn2,<-hn3,<-hn4,<-hn5,<-hn6,<-hn7,<-hn8] at RK ⊢;have B0:=zq ((Below.refl w.heap.size w).alloc (Nat.le_refl _) (.cells #[.int .i64 L.day,.slice a1 n1 c1,.slice a2 n2 c2,.slice a3 n3 c3,.slice a4 n4 c4,.slice a5 n5 c5,.slice a6 n6 c6,.slice a7 n7 c7,.slice a8 n8 c8] 31));clear h hL hGr e1 e2 e3 e4 e5 e6 e7 e8 hn1 hn2 hn3 hn4 hn5 hn6 hn7 hn8 hR
 go_enter Tryz.func109,Tryz.ntmps109
 go_wp2_with fail
 refine (RK.o _ B0.o).mono ?_;rintro e w1 ⟨rfl,hb⟩;have B1:=zq (B0.o.trans (hb.mono (by simp)));clear hb
 go_wp2_with fail
 go_ret2;exact⟨rfl,B1.o⟩
end Go.Proofs.YtcepekniflaoaaaGreatDoor
namespace Go.Proofs.YtcepekniflaoaaaGreatDoor
open Go.RowKit Go.Bw Go.Maps Go.Shelf
def _root_.Go.Bw.aH.bulk (L:aH):Nat:=L.aQ.length+L.ah.length+L.af.length+L.au.length+L.orders.length+L.aG.length+L.aJ.length+L.ai.length
structure _root_.Go.Bw.aH.Short (L:aH):Prop where
 b1:L.aQ.length<=140737488355328
 b2:L.ah.length<=140737488355328
 b3:L.af.length<=140737488355328
 b4:L.ai.length<=140737488355328
 b5:L.au.length<=140737488355328
 b6:L.orders.length<=140737488355328
 b7:L.aG.length<=140737488355328
 b8:L.aJ.length<=140737488355328
 aT:∀ a∈L.ai,a.aT.length*8<=140737488355328
theorem i64_in {w:World} {c:Value} (h:dn Tryz.prog w 3 [c]):∃ x:Int,c=.int .i64 x/\-9223372036854775808<=x/\x<=9223372036854775807:=by
 obtain⟨n,h1,h2⟩:=h.int Tryz.underlying3
 simp at h1
 have m1:IntKind.min .i64=-9223372036854775808:=rfl;have m2:IntKind.max .i64=9223372036854775807:=rfl
 simp only[Lit.wf,Bool.and_eq_true,decide_eq_true_eq,m1,m2] at h2
 exact⟨n,h1,h2⟩
theorem Ik {w:World} {c:Value} (h:dn Tryz.prog w 4 [c]):∃ x:Bool,c=.bool x:=by
 obtain⟨n,h1⟩:=h.bool Tryz.underlying4
 simp at h1
 exact⟨n,h1⟩
theorem Qy {w:World} {c:Value} (h:dn Tryz.prog w 9 [c]):∃ x:ByteArray,c=.string x/\x.size<=maxLen:=by
 obtain⟨n,h1,h2,h3⟩:=h.string Tryz.underlying9
 simp at h1
 exact⟨n,h1,h3⟩
theorem IJ {α:Type} {w:World} {t e:TypeId} {n:Nat} {v:Value} (f:α->List Value) (Pr:α->Prop) (ht:Tryz.prog.underlying t=some (.slice e)) (hn:Tryz.prog.cellsOf e=n) (h0:0<n)
 (hby:Nat.ble 1 (Tryz.prog.bytesOf e)=true) (hel:∀ cs,cs.length=n->dn Tryz.prog w e cs->∃ x:α,cs=f x/\Pr x) (h:dn Tryz.prog w t [v]):∃ l:List α,RowOf w n f v l/\(l.length<=140737488355328/\l.length*Tryz.prog.bytesOf e<=140737488355328)/\∀ x∈l,Pr x:=by
 obtain⟨a,len,cap,hv,hl,hm,hnil,hre,hrow⟩:=h.row ht hn h0;have hlen:len<=140737488355328/\len*Tryz.prog.bytesOf e<=140737488355328:=by
  have h1:0<Tryz.prog.bytesOf e:=Nat.le_of_ble_eq_true hby
  have h2:cap*1<=cap*Tryz.prog.bytesOf e:=Nat.mul_le_mul_left _ h1;have h3:len*Tryz.prog.bytesOf e<=cap*Tryz.prog.bytesOf e:=Nat.mul_le_mul_right _ hl;unfold reachBytes at hre;omega
 cases hv;have hI:∀ i,i<len->∃ x:α,Pr x/\∃ b o,a=some ⟨b,o,none⟩/\b<w.heap.size/\∀ j u,(f x)[j]?=some u->w.cell? ⟨b,o+i*n+j,none⟩=some u:=fun i hi=>by
  obtain⟨b,o,cs,ha,hc,hcell,hval⟩:=hrow i (by omega);obtain⟨x,rfl,hp⟩:=hel cs hc hval;refine⟨x,hp,b,o,ha,?_,hcell⟩;have:=hcell 0 _ (Zg (by omega));exact World.block_lt_of_cell? w _ this
 by_cases hz:len=0
 ·subst hz;exact⟨[],⟨a,cap,rfl,Nat.zero_le _,hm,hnil,fun i x hi=>by simp at hi⟩,⟨Nat.zero_le _,by simp⟩,fun x hx=>by cases hx⟩
 obtain⟨x0,_⟩:=hI 0 (by omega)
 haveI hne:Inhabited α:=⟨x0⟩
 obtain⟨g,hg⟩:=Deep.choose_lt hI;refine⟨(List.range len).map g,⟨a,cap,by simp,by simpa using hl,hm,hnil,fun i x hi=>?_⟩,by simpa using hlen,fun x hx=>?_⟩
 ·have hil:i<len:=by have:=(List.getElem?_eq_some_iff.1 hi).1;simpa using this
  simp[hil] at hi;subst hi;exact (hg i hil).2
 obtain⟨i,hi,rfl⟩:=List.mem_map.1 hx;exact (hg i (List.mem_range.1 hi)).1
theorem row_in {α:Type} {w:World} {t e:TypeId} {n:Nat} {v:Value} (f:α->List Value) (Pr:α->Prop) (ht:Tryz.prog.underlying t=some (.slice e)) (hn:Tryz.prog.cellsOf e=n) (h0:0<n)
 (hby:Nat.ble 1 (Tryz.prog.bytesOf e)=true) (hel:∀ cs,cs.length=n->dn Tryz.prog w e cs->∃ x:α,cs=f x/\Pr x) (h:dn Tryz.prog w t [v]):∃ l:List α,RowOf w n f v l/\l.length<=140737488355328/\∀ x∈l,Pr x:=by
 obtain⟨l,h1,h2,h3⟩:=IJ f Pr ht hn h0 hby hel h;exact⟨l,h1,h2.1,h3⟩
theorem JA:Tryz.prog.bytesOf 3=8:=by kernel_rfl
theorem Nb {w:World} {v:Value} (h:dn Tryz.prog w 28 [v]):∃ l:List Int,RowOf w 1 dw v l/\l.length*8<=140737488355328/\∀ x∈l,-9223372036854775808<=x/\x<=9223372036854775807:=by
 obtain⟨l,h1,h2,h3⟩:=IJ (w:=w) (v:=v) (n:=1) dw (fun x=>-9223372036854775808<=x/\x<=9223372036854775807) Tryz.underlying28 (by kernel_rfl) (by decide) (by kernel_rfl) (fun cs hc hv=>by
  match cs,hc with
  | [c],_=>obtain⟨x,rfl,h1⟩:=i64_in hv;exact⟨x,rfl,h1⟩) h
 rw[JA] at h2;exact⟨l,h1,h2.2,h3⟩
theorem OJ {w:World} {v:Value} (h:dn Tryz.prog w 28 [v]):∃ l:List Int,RowOf w 1 dw v l/\l.length<=140737488355328/\∀ x∈l,-9223372036854775808<=x/\x<=9223372036854775807 :=
 row_in dw _ Tryz.underlying28 (by kernel_rfl) (by decide) (by kernel_rfl) (fun cs hc hv=>by
  match cs,hc with
  | [c],_=>obtain⟨x,rfl,h1⟩:=i64_in hv;exact⟨x,rfl,h1⟩) h
theorem OH {w:World} {v:Value} (h:dn Tryz.prog w 22 [v]):∃ l:List gu,RowOf w 2 gu.cells v l/\l.length<=140737488355328/\∀ x∈l,True :=
 row_in gu.cells _ Tryz.underlying22 (by kernel_rfl) (by decide) (by kernel_rfl) (fun cs hc hv=>by
  match cs,hc with
  | [c0,c1],_ =>
    have h0:=hv.field Tryz.underlying86 0 (u := 3) rfl (by kernel_rfl) (c:=c0) rfl;have h1:=hv.field Tryz.underlying86 1 (u := 3) rfl (by kernel_rfl) (c:=c1) rfl;obtain⟨x0,rfl,_⟩:=i64_in h0;obtain⟨x1,rfl,_⟩:=i64_in h1;exact⟨⟨x0,x1⟩,rfl,trivial⟩) h
theorem Ky {w:World} {v:Value} (h:dn Tryz.prog w 23 [v]):∃ l:List dX,RowOf w 4 dX.cells v l/\l.length<=140737488355328/\∀ x∈l,x.name.size<=maxLen :=
 row_in dX.cells _ Tryz.underlying23 (by kernel_rfl) (by decide) (by kernel_rfl) (fun cs hc hv=>by
  match cs,hc with
  | [c0,c1,c2,c3],_ =>
    have h0:=hv.field Tryz.underlying48 0 (u := 9) rfl (by kernel_rfl) (c:=c0) rfl;have h1:=hv.field Tryz.underlying48 1 (u := 3) rfl (by kernel_rfl) (c:=c1) rfl;have h2:=hv.field Tryz.underlying48 2 (u := 3) rfl (by kernel_rfl) (c:=c2) rfl;have h3:=hv.field Tryz.underlying48 3 (u := 3) rfl (by kernel_rfl) (c:=c3) rfl;obtain⟨x0,rfl,hx⟩:=Qy h0;obtain⟨x1,rfl,_⟩:=i64_in h1;obtain⟨x2,rfl,_⟩:=i64_in h2;obtain⟨x3,rfl,_⟩:=i64_in h3;exact⟨⟨x0,x1,x2,x3⟩,rfl,hx⟩) h
theorem Jz {w:World} {v:Value} (h:dn Tryz.prog w 24 [v]):∃ l:List Ins,RowOf w 7 Ins.cells v l/\l.length<=140737488355328/\∀ x∈l,True :=
 row_in Ins.cells _ Tryz.underlying24 (by kernel_rfl) (by decide) (by kernel_rfl) (fun cs hc hv=>by
  match cs,hc with
  | [c0,c1,c2,c3,c4,c5,c6],_ =>
    have h0:=hv.field Tryz.underlying66 0 (u := 3) rfl (by kernel_rfl) (c:=c0) rfl;have h1:=hv.field Tryz.underlying66 1 (u := 3) rfl (by kernel_rfl) (c:=c1) rfl;have h2:=hv.field Tryz.underlying66 2 (u := 3) rfl (by kernel_rfl) (c:=c2) rfl;have h3:=hv.field Tryz.underlying66 3 (u := 3) rfl (by kernel_rfl) (c:=c3) rfl;have h4:=hv.field Tryz.underlying66 4 (u := 3) rfl (by kernel_rfl) (c:=c4) rfl;have h5:=hv.field Tryz.underlying66 5 (u := 4) rfl (by kernel_rfl) (c:=c5) rfl;have h6:=hv.field Tryz.underlying66 6 (u := 3) rfl (by kernel_rfl) (c:=c6) rfl;obtain⟨x0,rfl,_⟩:=i64_in h0;obtain⟨x1,rfl,_⟩:=i64_in h1;obtain⟨x2,rfl,_⟩:=i64_in h2;obtain⟨x3,rfl,_⟩:=i64_in h3;obtain⟨x4,rfl,_⟩:=i64_in h4;obtain⟨x5,rfl⟩:=Ik h5;obtain⟨x6,rfl,_⟩:=i64_in h6;exact⟨⟨x0,x1,x2,x3,x4,x5,x6⟩,rfl,trivial⟩) h
theorem KX {w:World} {v:Value} (h:dn Tryz.prog w 25 [v]):∃ l:List (Acc×Value),RowOf w 4 Acc.cells v l/\l.length<=140737488355328/\∀ p∈l,RowOf w 1 dw p.2 p.1.aT/\(∀ x∈p.1.aT,-9223372036854775808<=x/\x<=9223372036854775807)/\p.1.aT.length*8<=140737488355328 :=
 row_in Acc.cells _ Tryz.underlying25 (by kernel_rfl) (by decide) (by kernel_rfl) (fun cs hc hv=>by
  match cs,hc with
  | [c0,c1,c2,c3],_ =>
    have h0:=hv.field Tryz.underlying52 0 (u := 3) rfl (by kernel_rfl) (c:=c0) rfl;have h1:=hv.field Tryz.underlying52 1 (u := 28) rfl (by kernel_rfl) (c:=c1) rfl;have h2:=hv.field Tryz.underlying52 2 (u := 4) rfl (by kernel_rfl) (c:=c2) rfl;have h3:=hv.field Tryz.underlying52 3 (u := 3) rfl (by kernel_rfl) (c:=c3) rfl;obtain⟨x0,rfl,_⟩:=i64_in h0;obtain⟨aT,hr,hn,hb⟩:=Nb h1;obtain⟨x2,rfl⟩:=Ik h2;obtain⟨x3,rfl,_⟩:=i64_in h3;exact⟨(⟨x0,aT,x2,x3⟩,c1),rfl,hr,hb,hn⟩) h
theorem Pm {w:World} {v:Value} (h:dn Tryz.prog w 26 [v]):∃ l:List Pos,RowOf w 3 Pos.cells v l/\l.length<=140737488355328/\∀ x∈l,True :=
 row_in Pos.cells _ Tryz.underlying26 (by kernel_rfl) (by decide) (by kernel_rfl) (fun cs hc hv=>by
  match cs,hc with
  | [c0,c1,c2],_ =>
    have h0:=hv.field Tryz.underlying50 0 (u := 3) rfl (by kernel_rfl) (c:=c0) rfl;have h1:=hv.field Tryz.underlying50 1 (u := 3) rfl (by kernel_rfl) (c:=c1) rfl;have h2:=hv.field Tryz.underlying50 2 (u := 3) rfl (by kernel_rfl) (c:=c2) rfl;obtain⟨x0,rfl,_⟩:=i64_in h0;obtain⟨x1,rfl,_⟩:=i64_in h1;obtain⟨x2,rfl,_⟩:=i64_in h2;exact⟨⟨x0,x1,x2⟩,rfl,trivial⟩) h
theorem OQ {w:World} {v:Value} (h:dn Tryz.prog w 29 [v]):∃ l:List Pos,RowOf w 3 Pos.cells v l/\l.length<=140737488355328/\∀ x∈l,True :=
 row_in Pos.cells _ Tryz.underlying29 (by kernel_rfl) (by decide) (by kernel_rfl) (fun cs hc hv=>by
  match cs,hc with
  | [c0,c1,c2],_ =>
    have h0:=hv.field Tryz.underlying72 0 (u := 3) rfl (by kernel_rfl) (c:=c0) rfl;have h1:=hv.field Tryz.underlying72 1 (u := 3) rfl (by kernel_rfl) (c:=c1) rfl;have h2:=hv.field Tryz.underlying72 2 (u := 3) rfl (by kernel_rfl) (c:=c2) rfl;obtain⟨x0,rfl,_⟩:=i64_in h0;obtain⟨x1,rfl,_⟩:=i64_in h1;obtain⟨x2,rfl,_⟩:=i64_in h2;exact⟨⟨x0,x1,x2⟩,rfl,trivial⟩) h
theorem JO {w:World} {v:Value} (h:dn Tryz.prog w 27 [v]):∃ l:List Ord,RowOf w 5 Ord.cells v l/\l.length<=140737488355328/\∀ x∈l,True :=
 row_in Ord.cells _ Tryz.underlying27 (by kernel_rfl) (by decide) (by kernel_rfl) (fun cs hc hv=>by
  match cs,hc with
  | [c0,c1,c2,c3,c4],_ =>
    have h0:=hv.field Tryz.underlying74 0 (u := 3) rfl (by kernel_rfl) (c:=c0) rfl;have h1:=hv.field Tryz.underlying74 1 (u := 3) rfl (by kernel_rfl) (c:=c1) rfl;have h2:=hv.field Tryz.underlying74 2 (u := 3) rfl (by kernel_rfl) (c:=c2) rfl;have h3:=hv.field Tryz.underlying74 3 (u := 3) rfl (by kernel_rfl) (c:=c3) rfl;have h4:=hv.field Tryz.underlying74 4 (u := 3) rfl (by kernel_rfl) (c:=c4) rfl;obtain⟨x0,rfl,_⟩:=i64_in h0;obtain⟨x1,rfl,_⟩:=i64_in h1;obtain⟨x2,rfl,_⟩:=i64_in h2;obtain⟨x3,rfl,_⟩:=i64_in h3;obtain⟨x4,rfl,_⟩:=i64_in h4;exact⟨⟨x0,x1,x2,x3,x4⟩,rfl,trivial⟩) h
theorem JC:Tryz.prog.cellsOf 31=9:=by kernel_rfl
theorem Qq {w:World} {cs:Array Value} (h:dn Tryz.prog w 31 cs.toList):∃ V l,.agg cs=aB.val V l/\bK w V l/\aH.Short l:=by
 obtain⟨hlen,_⟩:=h.struct Tryz.underlying31;rw[JC] at hlen;obtain⟨cs⟩:=cs
 match cs,hlen with
 | [c0,c1,c2,c3,c4,c5,c6,c7,c8],_ =>
   have h0:=h.field Tryz.underlying31 0 (u := 3) rfl (by kernel_rfl) (c:=c0) rfl;have h1:=h.field Tryz.underlying31 1 (u := 22) rfl (by kernel_rfl) (c:=c1) rfl;have h2:=h.field Tryz.underlying31 2 (u := 23) rfl (by kernel_rfl) (c:=c2) rfl;have h3:=h.field Tryz.underlying31 3 (u := 24) rfl (by kernel_rfl) (c:=c3) rfl;have h4:=h.field Tryz.underlying31 4 (u := 25) rfl (by kernel_rfl) (c:=c4) rfl;have h5:=h.field Tryz.underlying31 5 (u := 26) rfl (by kernel_rfl) (c:=c5) rfl;have h6:=h.field Tryz.underlying31 6 (u := 27) rfl (by kernel_rfl) (c:=c6) rfl;have h7:=h.field Tryz.underlying31 7 (u := 28) rfl (by kernel_rfl) (c:=c7) rfl;have h8:=h.field Tryz.underlying31 8 (u := 29) rfl (by kernel_rfl) (c:=c8) rfl;obtain⟨x0,rfl,_⟩:=i64_in h0;obtain⟨l1,r1,t1,_⟩:=OH h1;obtain⟨l2,r2,t2,s2⟩:=Ky h2;obtain⟨l3,r3,t3,_⟩:=Jz h3;obtain⟨l4,r4,t4,s4⟩:=KX h4;obtain⟨l5,r5,t5,_⟩:=Pm h5;obtain⟨l6,r6,t6,_⟩:=JO h6;obtain⟨l7,r7,t7,_⟩:=OJ h7;obtain⟨l8,r8,t8,_⟩:=OQ h8;refine⟨⟨c1,c2,c3,c4,c5,c6,c7,c8,l4⟩,⟨x0,l1,l2,l3,l4.map (·.1),l5,l6,l7,l8⟩,rfl,⟨r1,r2,r3,rfl,r4,fun p hp=>(s4 p hp).1,r5,r6,r7,r8,s2,fun a ha=>?_⟩,⟨t1,t2,t3,by simpa using t4,t5,t6,t7,t8,fun a ha=>?_⟩⟩
   ·obtain⟨p,hp,rfl⟩:=List.mem_map.1 ha;exact (s4 p hp).2.1
   obtain⟨p,hp,rfl⟩:=List.mem_map.1 ha;exact (s4 p hp).2.2
end Go.Proofs.YtcepekniflaoaaaGreatDoor
namespace Go.Proofs.YtcepekniflaoaaaGreatDoor
open Go.RowKit Go.Bw Go.Maps
def jT:List (String×DataW Unit):=Rows.lifeSplitsRow.laid
theorem zL {w:World} {name:String} {cs:Array Value} {g:Nat} (hg:Tryz.prog.globalNamed name=some g) (h:w.var? Tryz.prog name=some cs):∃ t f,w.heap[g]?=some (.cells cs t f):=by
 unfold World.var? at h;rw[hg] at h
 simp only[Option.bind_some] at h
 split at h
 ·rename_i cs' t f hh;cases h;exact⟨t,f,hh⟩
 cases h
theorem OM {W:World} (hL:laidMetH Tryz.prog jT W):rF W:=by
 rw[MakeChecks.laidMetH_plain _ _ _ (by kernel_rfl)] at hL;have h1:laidMet Tryz.prog (("bulwark/grid.shifts",Lib.tabData .i64 [-2000,-1000,-500,0,500,1000,2000])::jT.drop 2) W:=hL.tail;have h2:laidMet Tryz.prog (("bulwark/grid.vols",Lib.tabData .i64 [-2500,0,2500])::jT.drop 3) W:=hL.tail.tail;have g1:Tryz.prog.globalNamed "bulwark/grid.shifts"=some 5:=by kernel_rfl
 have g2:Tryz.prog.globalNamed "bulwark/grid.vols"=some 6:=by kernel_rfl
 have t1:=Lib.tabIs_of_head g1 (by kernel_rfl) Tryz.underlying214 Tryz.underlying3 (by kernel_rfl) (by kernel_rfl) h1;have t2:=Lib.tabIs_of_head g2 (by kernel_rfl) Tryz.underlying215 Tryz.underlying3 (by kernel_rfl) (by kernel_rfl) h2;obtain⟨x1,y1,e1⟩:=zL g1 t1;obtain⟨x2,y2,e2⟩:=zL g2 t2;exact⟨⟨x1,y1,e1⟩,⟨x2,y2,e2⟩⟩
end Go.Proofs.YtcepekniflaoaaaGreatDoor
