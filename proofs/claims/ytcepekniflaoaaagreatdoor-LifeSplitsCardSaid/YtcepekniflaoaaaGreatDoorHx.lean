/- Joined: LifEx, LifWk. -/
import Derived.Test.YtcepekniflaoaaaGreatDoorGg
import Derived.Test.YtcepekniflaoaaaGreatDoorGa
import Derived.Test.YtcepekniflaoaaaGreatDoorGe
import Derived.Test.YtcepekniflaoaaaGreatDoorHp
import Derived.Test.YtcepekniflaoaaaGreatDoorGh
import Derived.Test.YtcepekniflaoaaaGreatDoorHt
set_option linter.unusedVariables false
set_option linter.unusedSimpArgs false
set_option maxRecDepth 100000
set_option maxHeartbeats 4000000
namespace Go.Proofs.YtcepekniflaoaaaGreatDoor
open Go.RowKit Go.Bw Go.Maps Go.Shelf
theorem OE (W:World):(Instr.build 66 #[(0,.int .i64 1),(2,.int .i64 1),(6,.int .i64 101)]).run Tryz.prog W=.ok (.agg #[.int .i64 1,.int .i64 0,.int .i64 1,.int .i64 0,.int .i64 0,.bool false,.int .i64 101]) W:=by kernel_rfl
theorem Ep (w1 w2:World) (g n k0 k1 k2:Nat) (hg:w2.heap[g]?=some (.cells #[.int .i64 (-1),.slice (some ⟨k0,0,none⟩) 1 1,.bool false,.int .i64 0,.int .i64 (-1),.slice (some ⟨k1,0,none⟩) 1 1,.bool false,.int .i64 0] 52 (0,0)))
 (hn:w2.heap[n]?=some (.cells #[.int .i64 (-1),.slice (some ⟨k2,0,none⟩) 1 1,.bool false,.int .i64 0] 52 (0,0))) :
 ∃ v' w3,(Builtin.append_ #[25, 25] 25 #[.slice (some ⟨g,0,none⟩) 2 2,.slice (some ⟨n,0,none⟩) 1 1]).run Tryz.prog w2=.ok v' w3 /\
  w3.ownsRow 0 52 4 v' 3 [.int .i64 (-1),.slice (some ⟨k0,0,none⟩) 1 1,.bool false,.int .i64 0,.int .i64 (-1),.slice (some ⟨k1,0,none⟩) 1 1,.bool false,.int .i64 0,.int .i64 (-1),.slice (some ⟨k2,0,none⟩) 1 1,.bool false,.int .i64 0]/\Mod (fun k=>k=g) w2 w3/\∀ k,v'.ownBlock=some k->k=g\/k=w2.heap.size:=by
 obtain⟨i0,h1,h2,h3,h4⟩:=info_parts Na;have ho:w2.ownsRow 0 52 4 (.slice (some ⟨g,0,none⟩) 2 2) 2 [.int .i64 (-1),.slice (some ⟨k0,0,none⟩) 1 1,.bool false,.int .i64 0,.int .i64 (-1),.slice (some ⟨k1,0,none⟩) 1 1,.bool false,.int .i64 0] :=
  ⟨rfl,Or.inr ⟨g,2,_,rfl,Nat.zero_le _,hg,Nat.le_refl _,by unfold maxLen;omega,rfl,rfl⟩⟩
 have hx:Reads w2 4 (.slice (some ⟨n,0,none⟩) 1 1) 1 [.int .i64 (-1),.slice (some ⟨k2,0,none⟩) 1 1,.bool false,.int .i64 0] :=
  ⟨rfl,Or.inr ⟨_,_,rfl,fun j u hj=>by
   rw[add_plain,Nat.zero_add,cell_of_heap hn]
   simpa using hj⟩⟩
 obtain⟨v',w3,hrun,ho3,hm3,hb3,_⟩:=kL (P:=Tryz.prog) 25 25 52 i0 _ 4 48 Tryz.underlying25 h1 h2 h3 h4 rfl (by decide) _ _ _ ho _ _ _ hx (by simp[Value.oneCell']) (by unfold maxLen;omega) (by omega);exact⟨v',w3,hrun,ho3,hm3.mono (fun k _ h=>by simpa [Value.ownBlock] using h.symm),fun k hk=>(hb3 k hk).imp (fun h=>by simpa [Value.ownBlock] using h.symm) id⟩
structure lT (w:World) (H T:Nat) (c4 c5 c6 c7:Value):Prop where
 t:w.heap[T]?=some (.cells (PG H T c4 c5 c6 c7) 31 (0,0))
 cu:w.heap[H+1+1]?=some (.cells #[.int .i64 1000000,.int .i64 0] 86 (0,0))
 k0:w.heap[H+1+1+1]?=some (.cells #[.int .i64 0] 3 (0,0))
 k1:w.heap[H+1+1+1+1]?=some (.cells #[.int .i64 0] 3 (0,0))
 un:w.heap[T+1]?=some (.cells #[.string ⟨#[65]⟩,.int .i64 0,.int .i64 101,.int .i64 0] 48 (0,0))
 ins:w.heap[T+1+1]?=some (.cells #[.int .i64 1,.int .i64 0,.int .i64 1,.int .i64 0,.int .i64 0,.bool false,.int .i64 101] 66 (0,0))
 ht:T=H+6
theorem lT.mod {w w':World} {H T:Nat} {c4 c5 c6 c7:Value} {S:Nat->Prop} (h:lT w H T c4 c5 c6 c7) (hm:Mod S w w') (hS:∀ k,S k->k=H+1+1+1+1+1\/T+1+1<k\/k=H):lT w' H T c4 c5 c6 c7:=by
 have ht:=h.ht;have g:∀ k,k≠H+1+1+1+1+1->k<=T+1+1/\H<k->¬ S k:=fun k h1 h2 h3=>by rcases hS k h3 with e|e|e <;> omega
 exact⟨hm.heap h.t (g _ (by omega) (by omega)),hm.heap h.cu (g _ (by omega) (by omega)),hm.heap h.k0 (g _ (by omega) (by omega)),hm.heap h.k1 (g _ (by omega) (by omega)),hm.heap h.un (g _ (by omega) (by omega)),hm.heap h.ins (g _ (by omega) (by omega)),ht⟩
theorem lT.set {w:World} {H T:Nat} {c4 c5 c6 c7:Value} (h:lT w H T c4 c5 c6 c7) (o:Nat) (v:Value) {d4 d5 d6 d7:Value} (he:(PG H T c4 c5 c6 c7).setIfInBounds o v=PG H T d4 d5 d6 d7):lT (w.setCell ⟨T,o,none⟩ v) H T d4 d5 d6 d7:=by
 have ht:=h.ht;have g:∀ k,k≠T->(w.setCell ⟨T,o,none⟩ v).heap[k]?=w.heap[k]?:=fun k hk=>iL hk
 refine⟨?_,(g _ (by omega)).trans h.cu,(g _ (by omega)).trans h.k0,(g _ (by omega)).trans h.k1,(g _ (by omega)).trans h.un,(g _ (by omega)).trans h.ins,ht⟩;rw[<-he];exact bC h.t o v
def Ic (w:World) (e:Ending) (w':World):Prop:=∃ V,e=.returned (V.val (pG))/\bK w' V (pG)/\Below w.heap.size w w'
theorem Lr {w w':World} {H T P A k2:Nat} {ao:Option Addr} {no co:Nat} {v4:Value} (hb:Below w.heap.size w w') (h:lT w' H T v4 (.slice (some ⟨P,0,none⟩) 1 1) (.slice ao no co) (.slice (some ⟨A,0,none⟩) 1 1))
 (hk2:w'.heap[k2]?=some (.cells #[.int .i64 1000] 3 (0,0))) (hp:w'.heap[P]?=some (.cells #[.int .i64 2,.int .i64 0,.int .i64 5] 50 (0,0))) (ha:w'.heap[A]?=some (.cells #[.int .i64 0] 3 (0,0)))
 (hacc:w'.ownsRow 0 52 4 v4 3 [.int .i64 (-1),.slice (some ⟨H+1+1+1,0,none⟩) 1 1,.bool false,.int .i64 0,.int .i64 (-1),.slice (some ⟨H+1+1+1+1,0,none⟩) 1 1,.bool false,.int .i64 0,.int .i64 (-1),.slice (some ⟨k2,0,none⟩) 1 1,.bool false,.int .i64 0])
 (ho:RowOf w' 5 Ord.cells (.slice ao no co) ([]:List Ord)) :
 Ic w (.returned (.agg (PG H T v4 (.slice (some ⟨P,0,none⟩) 1 1) (.slice ao no co) (.slice (some ⟨A,0,none⟩) 1 1)))) w':=by
 have own:aV w' 0 52 4 Acc.cells v4 [(⟨-1,[0],false,0⟩,.slice (some ⟨H+1+1+1,0,none⟩) 1 1),(⟨-1,[0],false,0⟩,.slice (some ⟨H+1+1+1+1,0,none⟩) 1 1),(⟨-1,[1000],false,0⟩,.slice (some ⟨k2,0,none⟩) 1 1)]:=hacc;refine⟨⟨.slice (some ⟨H+1+1,0,none⟩) 1 1,.slice (some ⟨T+1,0,none⟩) 1 1,.slice (some ⟨T+1+1,0,none⟩) 1 1,v4,.slice (some ⟨P,0,none⟩) 1 1,.slice ao no co,.slice (some ⟨A,0,none⟩) 1 1,.slice none 0 0,[(⟨-1,[0],false,0⟩,.slice (some ⟨H+1+1+1,0,none⟩) 1 1),(⟨-1,[0],false,0⟩,.slice (some ⟨H+1+1+1+1,0,none⟩) 1 1),(⟨-1,[1000],false,0⟩,.slice (some ⟨k2,0,none⟩) 1 1)]⟩,rfl,⟨row_one h.cu rfl,row_one h.un rfl,row_one h.ins rfl,rfl,own.row eG (by decide),?_,row_one hp rfl,ho,row_one ha rfl,IK,?_,?_⟩,hb⟩
 ·intro p hp
  simp only[List.mem_cons,List.not_mem_nil,or_false] at hp
  rcases hp with rfl|rfl|rfl
  ·exact row_one h.k0 rfl
  ·exact row_one h.k1 rfl
  exact row_one hk2 rfl
 ·intro u hu
  simp only[pG,List.mem_cons,List.not_mem_nil,or_false] at hu
  subst hu
  show (1:Nat)<=maxLen
  unfold maxLen;omega
 intro a ha x hx
 simp only[pG,List.mem_cons,List.not_mem_nil,or_false] at ha
 rcases ha with rfl|rfl|rfl <;> simp only[List.mem_cons,List.not_mem_nil,or_false] at hx <;> subst hx <;> omega
theorem yF (w:World) :
 Calls Tryz.prog 17 #[] w (Ic w):=by
 have b3:=fun s p W=>Q5 s p W
 have b4:=fun W=>OE W
 have b5:=fun n c a W=>Lh n c a W
 obtain⟨W0,hW0⟩:=Zn (w.alloc (.cells #[.int .i64 0,.slice none 0 0,.slice none 0 0,.slice none 0 0,.slice none 0 0,.slice none 0 0,.slice none 0 0,.slice none 0 0,.slice none 0 0] 31));have Z0:=zq (show W0.heap[w.heap.size]?=some (.cells #[.int .i64 0,.slice none 0 0,.slice none 0 0,.slice none 0 0,.slice none 0 0,.slice none 0 0,.slice none 0 0,.slice none 0 0,.slice none 0 0] 31 (0,0))/\Below w.heap.size w W0/\W0.heap.size=w.heap.size+1 from by rw[hW0];exact⟨heap_alloc_new _ _,Zb,by simp⟩)
 go_enter Tryz.func17,Tryz.ntmps17
 go_wp2_with fail
 rw[<-hW0];clear hW0;refine (first_any W0).mono ?_;rintro e w1 ⟨rfl,hf⟩;rw[Z0.o.2.2] at hf ⊢;have F1:=zq hf;clear hf
 go_upto_region 4 with (fail)
 obtain⟨W2,hW2⟩:=Zn (((w1.alloc (.cells #[.int .i64 0,.slice (some ⟨w.heap.size+1+1,0,none⟩) 1 1,.slice (some ⟨w1.heap.size+1,0,none⟩) 1 1,.slice (some ⟨w1.heap.size+1+1,0,none⟩) 1 1,.slice (some ⟨w.heap.size+1+1+1+1+1,0,none⟩) 2 2,.slice none 0 0,.slice none 0 0,.slice none 0 0,.slice none 0 0] 31)).alloc (.cells #[.string ⟨#[65]⟩,.int .i64 0,.int .i64 101,.int .i64 0] 48)).alloc (.cells #[.int .i64 1,.int .i64 0,.int .i64 1,.int .i64 0,.int .i64 0,.bool false,.int .i64 101] 66));have M2:=zq (show Mod (fun _=>False) w1 W2 from by rw[hW2];exact (((Mod.refl (fun _=>False) w1).alloc _).alloc _).alloc _);have X2:=zq (show lT W2 w.heap.size w1.heap.size (.slice (some ⟨w.heap.size+1+1+1+1+1,0,none⟩) 2 2) (.slice none 0 0) (.slice none 0 0) (.slice none 0 0)/\W2.heap[w.heap.size+1+1+1+1+1]?=some (.cells #[.int .i64 (-1),.slice (some ⟨w.heap.size+1+1+1,0,none⟩) 1 1,.bool false,.int .i64 0,.int .i64 (-1),.slice (some ⟨w.heap.size+1+1+1+1,0,none⟩) 1 1,.bool false,.int .i64 0] 52 (0,0))/\Below w.heap.size w W2/\W2.heap.size=w1.heap.size+3/\W2.heap[w.heap.size]?=some (.cells #[.int .i64 0,.slice none 0 0,.slice none 0 0,.slice none 0 0,.slice none 0 0,.slice none 0 0,.slice none 0 0,.slice none 0 0,.slice none 0 0] 31 (0,0)) from by
  have f:=F1.o;have zz:=(f.low).block w.heap.size (by omega);refine⟨⟨?_,M2.o.heap f.c1 (fun h=>h),M2.o.heap f.c2 (fun h=>h),M2.o.heap f.c3 (fun h=>h),?_,?_,f.size⟩,M2.o.heap f.c4 (fun h=>h),Z0.o.2.1.trans ((show Below W0.heap.size W0 W2 from ((Mod.of_below (show Below W0.heap.size W0 w1 from by rw[Z0.o.2.2];exact f.low)).trans M2.o (fun _ _ h=>h)).aU).mono (by rw[Z0.o.2.2];omega)),by rw[hW2];simp,M2.o.heap (zz.trans Z0.o.1) (fun h=>h)⟩
  ·rw[hW2];exact alloc_at _ _ (.map #[] 0) (alloc_at _ _ (.map #[] 0) (heap_alloc_new w1 _))
  ·rw[hW2];exact alloc_at _ _ (.map #[] 0) (qE _ _ (by simp))
  rw[hW2];exact qE _ _ (by simp))
 rw[<-hW2];clear hW2 M2 F1 Z0;obtain⟨H,hH⟩:=Zn w.heap.size;obtain⟨T,hT⟩:=Zn w1.heap.size;have BW:=zq (show Below w.heap.size w W2 from X2.o.2.2.1);have HW:=zq hH;rw[<-hH,<-hT] at X2 ⊢;clear hH hT;obtain⟨W4,hW4⟩:=Zn ((W2.alloc (.cells #[.int .i64 1000] 3)).alloc (.cells #[.int .i64 (-1),.slice (some ⟨W2.heap.size,0,none⟩) 1 1,.bool false,.int .i64 0] 52));have M4:=zq (show Mod (fun _=>False) W2 W4 from by rw[hW4];exact ((Mod.refl (fun _=>False) W2).alloc _).alloc _);have N4:=zq (show W4.heap[W2.heap.size]?=some (.cells #[.int .i64 1000] 3 (0,0))/\W4.heap[W2.heap.size+1]?=some (.cells #[.int .i64 (-1),.slice (some ⟨W2.heap.size,0,none⟩) 1 1,.bool false,.int .i64 0] 52 (0,0))/\W4.heap.size=W2.heap.size+2 from by
  rw[hW4];exact⟨alloc_at _ _ (.map #[] 0) (heap_alloc_new _ _),qE _ _ (by simp),by simp⟩)
 obtain⟨v4,w5,R5,O5,M5,D5⟩:=Ep W2 W4 (H+1+1+1+1+1) (W2.heap.size+1) _ _ _ (M4.o.heap X2.o.2.1 (fun h=>h)) N4.o.2.1;obtain⟨a4,c4,rfl,_⟩:=iP O5;have OD:=zq (show ∀ k,(Value.slice a4 3 c4).ownBlock=some k->¬ (k=H\/k=T) from fun k hk=>by
  have h1:=D5 k hk;have h2:=X2.o.1.ht;have h3:=X2.o.2.2.2.1;have h4:=N4.o.2.2;omega)
 rw[hW4] at R5;have R5':=zq R5;have O5':=zq O5;have M5':=zq (show Mod (fun k=>k=H+1+1+1+1+1) W2 w5 from (M4.o.mono (fun _ _ h=>h.elim)).trans M5 (fun _ _ h=>h));have X5:=zq (X2.o.1.mod M5'.o (fun k h=>Or.inl h));have K5:=zq (show w5.heap[W2.heap.size]?=some (.cells #[.int .i64 1000] 3 (0,0))/\W2.heap.size<w5.heap.size from ⟨M5.heap N4.o.1 (by have:=X2.o.2.2.2.1;have:=X2.o.1.ht;omega),by have:=M5.size;have:=N4.o.2.2;omega⟩);have d4:W2.cell? ⟨T,4,none⟩=some (.slice (some ⟨H+1+1+1+1+1,0,none⟩) 2 2):=(cell_of_heap X2.o.1.t 4).trans rfl;have e4:w5.cell? ⟨T,4,none⟩=some (.slice (some ⟨H+1+1+1+1+1,0,none⟩) 2 2):=(cell_of_heap X5.o.t 4).trans rfl;have f4:=aP X5.o.t 4;clear R5 O5 M5 D5 hW4
 go_upto_region 5 with (at_builtin;refine wpList_append_run rfl (.tmp 10) (.tmp 13) 25 rfl rfl rfl R5'.o ?_)
 have HT:=zq (show T=H+6/\T+1+1<W2.heap.size/\H=w.heap.size from ⟨X2.o.1.ht,by have:=X2.o.2.2.2.1;omega,HW.o⟩);obtain⟨W6,hW6⟩:=Zn (w5.setCell ⟨T,4,none⟩ (.slice a4 3 c4));have M6:=zq (show Mod (fun k=>k=T) w5 W6 from by rw[hW6];exact (Mod.refl _ _).setCell _ (fun _=>rfl));have X6:=zq (show lT W6 H T (.slice a4 3 c4) (.slice none 0 0) (.slice none 0 0) (.slice none 0 0) from by rw[hW6];exact X5.o.set 4 (.slice a4 3 c4) rfl);rw[<-hW6];have ta6:=alloc_at W6 (.cells #[.int .i64 2,.int .i64 0,.int .i64 5] 50) (.map #[] 0) X6.o.t;have g5:(W6.alloc (.cells #[.int .i64 2,.int .i64 0,.int .i64 5] 50)).cell? ⟨T,5,none⟩=some (.slice none 0 0):=(cell_of_heap ta6 5).trans rfl;have z5:=aP ta6 5;clear ta6;clear hW6 d4 e4 f4
 go_upto_region 6 with (fail)
 obtain⟨W7,hW7⟩:=Zn ((W6.alloc (.cells #[.int .i64 2,.int .i64 0,.int .i64 5] 50)).setCell ⟨T,5,none⟩ (.slice (some ⟨W6.heap.size,0,none⟩) 1 1));have M7:=zq (show Mod (fun k=>k=T) W6 W7/\W7.heap[W6.heap.size]?=some (.cells #[.int .i64 2,.int .i64 0,.int .i64 5] 50 (0,0))/\T<W6.heap.size from by
  have tl:=lt_of_heap X6.o.t;rw[hW7];exact⟨((Mod.refl (fun k=>k=T) W6).alloc _).setCell _ (fun _=>rfl),(iL (by show W6.heap.size≠T;omega)).trans (heap_alloc_new _ _),tl⟩)
 have X7:=zq (show lT W7 H T (.slice a4 3 c4) (.slice (some ⟨W6.heap.size,0,none⟩) 1 1) (.slice none 0 0) (.slice none 0 0) from by rw[hW7];exact (X6.o.mod ((Mod.refl (fun _=>False) W6).alloc _) (fun _ h=>h.elim)).set 5 _ rfl);rw[<-hW7];obtain⟨P,hP⟩:=Zn W6.heap.size;rw[<-hP] at M7 X7 ⊢;have ta7:=alloc_at W7 (.cells #[.int .i64 0] 3) (.map #[] 0) X7.o.t;have g7:(W7.alloc (.cells #[.int .i64 0] 3)).cell? ⟨T,7,none⟩=some (.slice none 0 0):=(cell_of_heap ta7 7).trans rfl;have z7:=aP ta7 7;clear ta7;clear hW7 hP g5 z5
 go_upto_region 7 with (fail)
 obtain⟨W9,hW9⟩:=Zn ((W7.alloc (.cells #[.int .i64 0] 3)).setCell ⟨T,7,none⟩ (.slice (some ⟨W7.heap.size,0,none⟩) 1 1));have M9:=zq (show Mod (fun k=>k=T) W7 W9/\W9.heap[W7.heap.size]?=some (.cells #[.int .i64 0] 3 (0,0))/\T<W7.heap.size from by
  have tl:=lt_of_heap X7.o.t;rw[hW9];exact⟨((Mod.refl (fun k=>k=T) W7).alloc _).setCell _ (fun _=>rfl),(iL (by show W7.heap.size≠T;omega)).trans (qE _ _ (by simp[World.setCell])),tl⟩)
 have X9:=zq (show lT W9 H T (.slice a4 3 c4) (.slice (some ⟨P,0,none⟩) 1 1) (.slice none 0 0) (.slice (some ⟨W7.heap.size,0,none⟩) 1 1) from by rw[hW9];exact (X7.o.mod ((Mod.refl (fun _=>False) W7).alloc _) (fun _ h=>h.elim)).set 7 _ rfl);rw[<-hW9];obtain⟨A,hA⟩:=Zn W7.heap.size;rw[<-hA] at M9 X9 ⊢;have ZH:=zq (show W9.heap[H]?=some (.cells #[.int .i64 0,.slice none 0 0,.slice none 0 0,.slice none 0 0,.slice none 0 0,.slice none 0 0,.slice none 0 0,.slice none 0 0,.slice none 0 0] 31 (0,0)) from by
  have ht:=HT.o;have z:=X2.o.2.2.2.2;exact M9.o.1.heap (M7.o.1.heap (M6.o.heap (M5'.o.heap z (by omega)) (by omega)) (by omega)) (by omega))
 clear hW9 hA g7 z7;have t0:W9.cell? ⟨T,0,none⟩=some (.int .i64 0):=(cell_of_heap X9.o.t 0).trans rfl;have t1:W9.cell? ⟨T,1,none⟩=some (.slice (some ⟨H+1+1,0,none⟩) 1 1):=(cell_of_heap X9.o.t 1).trans rfl;have t2:W9.cell? ⟨T,2,none⟩=some (.slice (some ⟨T+1,0,none⟩) 1 1):=(cell_of_heap X9.o.t 2).trans rfl;have t3:W9.cell? ⟨T,3,none⟩=some (.slice (some ⟨T+1+1,0,none⟩) 1 1):=(cell_of_heap X9.o.t 3).trans rfl;have t4:W9.cell? ⟨T,4,none⟩=some (.slice a4 3 c4):=(cell_of_heap X9.o.t 4).trans rfl;have t5:W9.cell? ⟨T,5,none⟩=some (.slice (some ⟨P,0,none⟩) 1 1):=(cell_of_heap X9.o.t 5).trans rfl;have t6:W9.cell? ⟨T,6,none⟩=some (.slice none 0 0):=(cell_of_heap X9.o.t 6).trans rfl;have t7:W9.cell? ⟨T,7,none⟩=some (.slice (some ⟨A,0,none⟩) 1 1):=(cell_of_heap X9.o.t 7).trans rfl;have t8:W9.cell? ⟨T,8,none⟩=some (.slice none 0 0):=(cell_of_heap X9.o.t 8).trans rfl;have h0:W9.cell? ⟨H,0,none⟩=some (.int .i64 0):=(cell_of_heap ZH.o 0).trans rfl;have q0:=aP ZH.o 0;have h1:W9.cell? ⟨H,1,none⟩=some (.slice none 0 0):=(cell_of_heap ZH.o 1).trans rfl;have q1:=aP ZH.o 1;have h2:W9.cell? ⟨H,2,none⟩=some (.slice none 0 0):=(cell_of_heap ZH.o 2).trans rfl;have q2:=aP ZH.o 2;have h3:W9.cell? ⟨H,3,none⟩=some (.slice none 0 0):=(cell_of_heap ZH.o 3).trans rfl;have q3:=aP ZH.o 3;have h4:W9.cell? ⟨H,4,none⟩=some (.slice none 0 0):=(cell_of_heap ZH.o 4).trans rfl;have q4:=aP ZH.o 4;have h5:W9.cell? ⟨H,5,none⟩=some (.slice none 0 0):=(cell_of_heap ZH.o 5).trans rfl;have q5:=aP ZH.o 5;have h6:W9.cell? ⟨H,6,none⟩=some (.slice none 0 0):=(cell_of_heap ZH.o 6).trans rfl;have q6:=aP ZH.o 6;have h7:W9.cell? ⟨H,7,none⟩=some (.slice none 0 0):=(cell_of_heap ZH.o 7).trans rfl;have q7:=aP ZH.o 7;have h8:W9.cell? ⟨H,8,none⟩=some (.slice none 0 0):=(cell_of_heap ZH.o 8).trans rfl;have q8:=aP ZH.o 8
 go_wp2_with fail
 obtain⟨WF,hWF⟩:=Zn ((((((((((W9.setCell ⟨H,0,none⟩ (.int .i64 0)).setCell ⟨H,1,none⟩ (.slice (some ⟨H+1+1,0,none⟩) 1 1)).setCell ⟨H,2,none⟩ (.slice (some ⟨T+1,0,none⟩) 1 1)).setCell ⟨H,3,none⟩ (.slice (some ⟨T+1+1,0,none⟩) 1 1)).setCell ⟨H,4,none⟩ (.slice a4 3 c4)).setCell ⟨H,5,none⟩ (.slice (some ⟨P,0,none⟩) 1 1)).setCell ⟨H,6,none⟩ (.slice none 0 0)).setCell ⟨H,7,none⟩ (.slice (some ⟨A,0,none⟩) 1 1)).setCell ⟨H,8,none⟩ (.slice none 0 0)));have MF:=zq (show Mod (fun k=>k=H) W9 WF from by
  rw[hWF];exact ((((((((((Mod.refl (fun k=>k=H) W9)).setCell _ (fun _=>rfl)).setCell _ (fun _=>rfl)).setCell _ (fun _=>rfl)).setCell _ (fun _=>rfl)).setCell _ (fun _=>rfl)).setCell _ (fun _=>rfl)).setCell _ (fun _=>rfl)).setCell _ (fun _=>rfl)).setCell _ (fun _=>rfl))
 have s0:=bC ZH.o 0 (.int .i64 0);have s1:=bC s0 1 (.slice (some ⟨H+1+1,0,none⟩) 1 1);have s2:=bC s1 2 (.slice (some ⟨T+1,0,none⟩) 1 1);have s3:=bC s2 3 (.slice (some ⟨T+1+1,0,none⟩) 1 1);have s4:=bC s3 4 (.slice a4 3 c4);have s5:=bC s4 5 (.slice (some ⟨P,0,none⟩) 1 1);have s6:=bC s5 6 (.slice none 0 0);have s7:=bC s6 7 (.slice (some ⟨A,0,none⟩) 1 1);have s8:=bC s7 8 (.slice none 0 0);rw[<-hWF] at s8 ⊢;have SF:=zq (show WF.heap[H]?=some (.cells (PG H T (.slice a4 3 c4) (.slice (some ⟨P,0,none⟩) 1 1) (.slice none 0 0) (.slice (some ⟨A,0,none⟩) 1 1)) 31 (0,0)) from s8);clear hWF s0 s1 s2 s3 s4 s5 s6 s7 s8;refine bodyPost_ret (results_cell_row rfl _ _ H 31 _ (0,0) _ rfl SF.o Tryz.underlying31 rfl (by kernel_rfl)) rfl ?_;have MA:=(((M6.o.mono (T:=fun k=>k=H\/k=T) (fun _ _ h=>Or.inr h)).trans M7.o.1 (fun _ _ h=>Or.inr h)).trans M9.o.1 (fun _ _ h=>Or.inr h)).trans MF.o (fun _ _ h=>Or.inl h);have ht:=HT.o;have k5:=K5.o;have M79:=(M9.o.1.mono (T:=fun k=>k=H\/k=T) (fun _ _ h=>Or.inr h)).trans MF.o (fun _ _ h=>Or.inl h);have p6:=M6.o.size;have p7:=M7.o.1.size;have BF:Below w.heap.size w WF:=((Mod.of_below BW.o).trans (T:=fun k=>k=H+1+1+1+1+1\/k=H\/k=T) ((M5'.o.mono (fun _ _ h=>Or.inl h)).trans MA (fun _ _ h=>Or.inr h)) (fun k hk h=>by omega)).aU;refine Lr (k2:=W2.heap.size) BF (X9.o.mod MF.o (fun k h=>Or.inr (Or.inr h))) (MA.heap k5.1 (by omega)) (M79.heap M7.o.2.1 (by have:=M7.o.2.2;omega)) (MF.o.heap M9.o.2.1 (by have:=M9.o.2.2;omega)) ?_ ?_
 ·refine jX O5'.o (fun k hk=>MA.block k (World.ownsRow.lt O5'.o k hk).2 (fun h=>?_));rcases h with h|h
  ·exact OD.o k hk (Or.inl h)
  exact OD.o k hk (Or.inr h)
 exact IK
theorem Ea (w:World) (hG:rF w):Calls Tryz.prog 6 #[] w fun e w'=>e=.returned (.bool true)/\Below w.heap.size w w':=by
 have GR:=zq hG;have F0:=zq (fun W=>yF W);have A1:=zq (show ∀ W V,bK W V pG->rF W->Calls Tryz.prog 8 #[V.val pG,.int .i64 0,.int .i64 3,.int .i64 2] W (pV W (uH,0,0)) from fun W V h hG=>by
  have:=tq W V _ h (by decide) hG 0 3 2 ⟨by omega,by omega⟩ ⟨by omega,by omega⟩;rw[EH] at this;exact this)
 have A2:=zq (show ∀ W V,bK W V pG->rF W->Calls Tryz.prog 11 #[V.val pG,.int .i64 0,.int .i64 4] W (pV W (yE,0,0)) from fun W V h hG=>by
  have:=Fh W V _ h (by decide) hG 0 4;rw[Lp] at this;exact this)
 clear hG
 go_enter Tryz.func6,Tryz.ntmps6
 go_wp2_with fail
 refine (F0.o _).mono ?_;rintro e w1 ⟨V1,rfl,hl,hb⟩;have X1:=zq hb;have C1:=zq (A1.o w1 V1 hl (GR.o.below hb));clear hl hb;unfold aB.val at C1 ⊢;obtain⟨K1,hK1⟩:=Zn (V1.cells pG);rw[<-hK1] at C1 ⊢;clear hK1
 go_wp2_with fail
 refine C1.o.mono ?_;rintro e w2 ⟨U2,rfl,own,hb⟩;have O2:=zq own;have L2:=zq (iC own.led);have B2:=zq (X1.o.trans (hb.mono X1.o.size));unfold aB.val;clear own hb C1
 go_upto_region 2 with (refine aW (heap_alloc_last _ _) bG L2.o rfl rfl rfl rfl ?_;rw[World.setRow_alloc_new])
 have X3:=zq (show At w (w2.alloc (.cells (U2.cells uH) 31)) [(w2.heap.size, 31,U2.cells uH)] from by
  have a:At w w2 []:=⟨B2.o,by simp,by simp,by simp⟩;exact a.alloc _ _)
 have H3:=zq (O2.o.below ((Below.refl _ _).alloc (Nat.le_refl _) (.cells (U2.cells uH) 31))).led;obtain⟨K2,hK2⟩:=Zn (U2.cells uH);have EK2:=zq hK2;rw[<-hK2] at X3 L2 H3 ⊢;obtain⟨w3,hw3⟩:=Zn (w2.alloc (.cells K2 31));obtain⟨q1,hq1⟩:=Zn w2.heap.size;rw[<-hw3] at X3 H3;rw[<-hq1] at X3;rw[<-hw3,<-hq1];clear hw3 hq1 hK2 O2
 go_wp2_with fail
 refine (F0.o _).mono ?_;rintro e w4 ⟨V4,rfl,hl,hb⟩;have X4:=zq (X3.o.go hb);have H4:=zq (H3.o.below hb);have C3:=zq (A2.o w4 V4 hl (GR.o.below X4.o.low));clear hl hb;unfold aB.val at C3 ⊢;obtain⟨K4,hK4⟩:=Zn (V4.cells pG);rw[<-hK4] at C3 ⊢;clear hK4
 go_wp2_with fail
 refine C3.o.mono ?_;rintro e w5 ⟨U5,rfl,own,hb⟩;have O5:=zq own;have L5:=zq (iC own.led);have X5:=zq (X4.o.go hb);have H5:=zq (H4.o.below hb);unfold aB.val;clear own hb C3
 go_upto_region 3 with (refine aW (heap_alloc_last _ _) bG L5.o rfl rfl rfl rfl ?_;rw[World.setRow_alloc_new])
 have X6:=zq (X5.o.alloc 31 (U5.cells yE));have BA:=zq (show Below w5.heap.size w5 (w5.alloc (.cells (U5.cells yE) 31)) from Zb);have H6:=zq (H5.o.below BA.o);have G6:=zq (O5.o.below BA.o).led;obtain⟨w6,hw6⟩:=Zn (w5.alloc (.cells (U5.cells yE) 31));obtain⟨q2,hq2⟩:=Zn w5.heap.size;rw[<-hw6] at X6 H6 G6;rw[<-hq2] at X6;rw[<-hw6,<-hq2];clear hw6 hq2;obtain⟨p1,b4,o4,k4,o4',c4,c4',A4⟩:=H6.o.lV (k:=2) (m:=0) (by decide) (by decide);obtain⟨p2,d4,i4,m4,i4',e4,e4',D4⟩:=G6.o.lV (k:=2) (m:=0) (by decide) (by decide);obtain⟨b2,o2,c2,v2,h2⟩:=H6.o.ah.place (k:=0) rfl;obtain⟨b5,o5,c5,v5,h5⟩:=H6.o.au.place (k:=0) rfl;have y2:w6.cell? ⟨q1,2,none⟩=some (.slice (some ⟨b2,o2,none⟩) 1 c2):=X6.o.cell 0 rfl 2 (by rw[EK2.o];exact congrArg some v2);have y4:w6.cell? ⟨q1,4,none⟩=some (.slice (some ⟨b4,o4,none⟩) 3 c4):=X6.o.cell 0 rfl 4 (by rw[EK2.o];exact congrArg some A4.row);have y5:w6.cell? ⟨q1,5,none⟩=some (.slice (some ⟨b5,o5,none⟩) 1 c5):=X6.o.cell 0 rfl 5 (by rw[EK2.o];exact congrArg some v5);have z4:w6.cell? ⟨q2,4,none⟩=some (.slice (some ⟨d4,i4,none⟩) 3 e4):=X6.o.cell 1 rfl 4 (congrArg some D4.row);have u2:w6.cell? ⟨b2,o2+2,none⟩=some (.int .i64 67):=by have:=h2 2 _ rfl;simpa using this
 have u5:w6.cell? ⟨b5,o5+2,none⟩=some (.int .i64 7):=by have:=h5 2 _ rfl;simpa using this
 have u4:w6.cell? ⟨b4,o4+9,none⟩=some (.slice (some ⟨k4,o4',none⟩) 1 c4'):=by have:=A4.OA;exact this
 have t4:w6.cell? ⟨k4,o4',none⟩=some (.int .i64 1036):=by have:=A4.at2;exact this
 have x4:w6.cell? ⟨d4,i4+9,none⟩=some (.slice (some ⟨m4,i4',none⟩) 1 e4'):=by have:=D4.OA;exact this
 have r4:w6.cell? ⟨m4,i4',none⟩=some (.int .i64 1020):=by have:=D4.at2;exact this
 clear h2 h5 v2 v5 A4 D4
 go_wp2_with fail
 go_ret;exact⟨rfl,X6.o.low⟩
end Go.Proofs.YtcepekniflaoaaaGreatDoor
