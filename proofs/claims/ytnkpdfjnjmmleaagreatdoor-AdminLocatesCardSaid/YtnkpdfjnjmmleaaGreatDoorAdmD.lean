/- The document's no and End. -/
import Derived.Test.YtnkpdfjnjmmleaaGreatDoorAdmC
import Derived.Test.YtnkpdfjnjmmleaaGreatDoorGl
import Derived.Test.YtnkpdfjnjmmleaaGreatDoorGj
set_option linter.unusedVariables false
set_option linter.unusedSimpArgs false
set_option maxRecDepth 100000
set_option maxHeartbeats 4000000
namespace Go.Proofs.YtnkpdfjnjmmleaaGreatDoor
open Go.RowKit Go.Bw Go.Maps Go.Shelf Go.Bw.Fall
noncomputable def endA (M:Led) (n:Int):Led×Int×Int:=if (flagsA M).2=0 then ((flagsA M).1,n,0) else (L0,0,(flagsA M).2)
theorem admA_end {L:Led} {r:Adm} (hg:L.Good) (he:r.err=0):admA L r=endA r.led r.num:=by
 unfold endA
 by_cases h:(flagsA r.led).2=0
 ·rw[admA_ok hg he h,if_pos h]
 ·rw[admA_over hg he h,if_neg h]
theorem buildLed (W:World):(Instr.build 31 #[]).run Tryz.prog W=.ok (.agg led0) W:=by kernel_rfl
theorem rno_any (er:Int) (w:World):Calls Tryz.prog 44 #[.int .i64 er] w fun e w'=>e=.returned (.tuple #[.agg led0,.int .i64 0,.int .i64 er]) /\ Below w.heap.size w w':=by
 have hb:=buildLed
 go_enter Tryz.func44,Tryz.ntmps44
 go_wp2_with (refine led_store (cs:=led0) (heap_alloc_last _ _) ledc0 ledc0 rfl rfl rfl rfl ?_;rw[World.setRow_alloc_new])
 refine bodyPost_ret (results_led1 (cs:=led0) rfl _ _ (heap_alloc_last _ _) ledc0 rfl) rfl ⟨rfl,(Below.refl _ _).alloc (Nat.le_refl _) _⟩
theorem rend_any (w:World) (V:LedV) (M:Led) (h:LedAt w V M) (hg:M.Good) (n:Int):Calls Tryz.prog 47 #[V.val M,.int .i64 n] w (AdmRet w (endA M n)):=by
 have hbl:=buildLed
 have LC:=zq (ledc h)
 have FL:=zq (fun W (hb:Below w.heap.size w W)=>rflags_ret W V M (h.below hb) hg)
 unfold LedV.val at FL ⊢
 obtain⟨C,hC⟩:∃ C,C=V.cells M:=⟨_,rfl⟩
 rw[<- hC] at FL LC ⊢
 obtain⟨X,er,hX⟩:∃ X er,flagsA M=(X,er):=⟨_,_,rfl⟩
 have EY:=zq (show er=0 -> endA M n=(X,n,0) from fun h=>by unfold endA;rw[hX,if_pos h])
 have EZ:=zq (show er≠0 -> endA M n=(L0,0,er) from fun h=>by unfold endA;rw[hX,if_neg h])
 rw[hX] at FL
 obtain⟨W0,hW0⟩:∃ s,s=(w.alloc (.cells C 31)).alloc (.cells #[.int .i64 0,.slice none 0 0,.slice none 0 0,.slice none 0 0,.slice none 0 0,.slice none 0 0,.slice none 0 0,.slice none 0 0,.slice none 0 0] 31):=⟨_,rfl⟩
 obtain⟨b0,hb0⟩:∃ n,n=w.heap.size:=⟨_,rfl⟩
 have X0:=zq (show At w W0 [(b0, 31,C),(b0+1, 31,led0)] from by
  have a:=((At.start w).alloc 31 C).alloc 31 #[.int .i64 0,.slice none 0 0,.slice none 0 0,.slice none 0 0,.slice none 0 0,.slice none 0 0,.slice none 0 0,.slice none 0 0,.slice none 0 0]
  have e:∀ (w:World) (o:Obj),(w.alloc o).heap.size=w.heap.size+1:=fun w o=>by simp
  simp only[e] at a
  rw[<- hW0,<- hb0] at a
  exact a)
 clear h hg hC hX
 go_enter Tryz.func47,Tryz.ntmps47
 go_upto_region 1 with (fail)
 rw[<- hW0,<- hb0]
 clear hW0 hb0
 go_wp2_with (refine led_load (X0.o.get 0 rfl) LC.o rfl rfl rfl ?_)
 refine (FL.o W0 X0.o.low).mono ?_
 rintro e w2 ⟨U,rfl,own,hb⟩
 have OW:=zq own
 have A2:=zq (X0.o.go hb)
 have S0:=zq (show b0+1<W0.heap.size from X0.o.lt (b0+1, 31,led0) (by simp))
 have LU:=zq (ledc own.led)
 unfold LedV.val
 clear own hb FL X0
 go_upto_region 2 with (refine led_store (heap_alloc_last _ _) ledc0 LU.o rfl rfl rfl rfl ?_;rw[World.setRow_alloc_new])
 obtain⟨W3,hW3⟩:∃ s,s=w2.alloc (.cells (U.cells X) 31):=⟨_,rfl⟩
 obtain⟨b3,hb3⟩:∃ n,n=w2.heap.size:=⟨_,rfl⟩
 have A3:=zq (show At w W3 [(b0, 31,C),(b0+1, 31,led0),(b3, 31,U.cells X)] from by rw[hW3,hb3];exact A2.o.alloc _ _)
 have OW:=zq (show LedOwn W3 W0.heap.size U X from by rw[hW3];exact OW.o.below ((Below.refl _ _).alloc (Nat.le_refl _) _))
 rw[<- hW3,<- hb3]
 clear hW3 hb3 A2
 have SW:=zq (show w.heap.size <= b0 from A3.o.new (b0, 31,C) (by simp))
 by_cases hz:er=0
 ·have EE:=zq (EY.o hz)
  subst hz
  clear EY EZ
  go_wp2_with (first|refine led_load (A3.o.get 2 rfl) LU.o rfl rfl rfl ?_|refine led_store (A3.o.get 1 rfl) ledc0 LU.o rfl rfl rfl rfl ?_)
  refine bodyPost_ret (results_led1 rfl _ _ (setRow_heap _ _ _ _ _ _ (A3.o.get 1 rfl)) LU.o rfl) rfl ⟨U,by rw[EE.o];rfl,?_,(A3.o.setRow 1 rfl _).low⟩
  rw[EE.o]
  exact (OW.o.mod (mod_setRow' (w:=W3) (b0+1) _) (fun k hk _ e=>by have:=S0.o;omega)).base (by have:=S0.o;have:=SW.o;omega)
 ·have HZ:=zq hz
  have hz':(er != 0)=true:=by rw[bne_iff_ne];exact hz
  clear hz
  go_wp2_with (refine led_store (cs:=led0) (A3.o.get 1 rfl) ledc0 ledc0 rfl rfl rfl rfl ?_)
  refine bodyPost_ret (results_led1 (cs:=led0) rfl _ _ (setRow_heap _ _ _ _ _ _ (A3.o.get 1 rfl)) ledc0 rfl) rfl ⟨V0,by rw[EZ.o HZ.o];rfl,?_,(A3.o.setRow 1 rfl _).low⟩
  rw[EZ.o HZ.o]
  exact own0 _ _
theorem fbs_copy {w W W2:World} {bs:List (Nat×TypeId×Array Value)} {V:LedV} {L:Led} (A:At w W bs) (own:LedOwn W2 W.heap.size V L) (hb:Below W.heap.size W W2) :
 FBs w W.heap.size ((W2.heap.size, 31,V.cells L)::bs) V L (W2.alloc (.cells (V.cells L) 31)):=by
 have ha:Below W2.heap.size W2 (W2.alloc (.cells (V.cells L) 31)):=(Below.refl _ _).alloc (Nat.le_refl _) _
 refine⟨((A.go hb).alloc _ _).perm List.perm_append_comm,own.below ha,fun x hx=>?_,Nat.le_trans hb.size ha.size,A.low.size⟩
 rcases List.mem_cons.1 hx with rfl|hx
 ·exact own.notin (Or.inr (Nat.le_refl _))
 ·exact own.notin (Or.inl (A.lt x hx))
theorem end_ret {w W w2:World} {bs:List (Nat×TypeId×Array Value)} {U:LedV} {a:Led×Int×Int} {k r:Nat} {T:TypeId} {old:Array Value} {n er:Int} {L:Led} {s:Adm} {cs:Array Value} (A:At w W bs) (hb:Below W.heap.size W w2) (own:LedOwn w2 W.heap.size U a.1) (hk:bs[k]?=some (r,T,old)) (e:a=admA L s) (hn:n=a.2.1) (he:er=a.2.2) (hc:cs=U.cells a.1) :
 AdmRet w (admA L s) (.returned (.tuple #[.agg cs,.int .i64 n,.int .i64 er])) (w2.setRow r cs):=by
 subst e
 subst hn
 subst he
 subst hc
 have hlt:=A.lt _ (List.mem_of_getElem? hk)
 exact⟨U,rfl,(own.mod (mod_setRow' (w:=w2) r _) (fun j hj _ e=>by subst e;simp at hlt;omega)).base A.low.size,((A.go hb).setRow k hk _).low⟩
theorem no_ret {w W:World} {bs:List (Nat×TypeId×Array Value)} {k r:Nat} {old:Array Value} {er:Int} {L:Led} {s:Adm} (A:At w W bs) (hk:bs[k]?=some (r, 31,old)) (e:admA L s=(L0,0,er)) :
 AdmRet w (admA L s) (.returned (.tuple #[.agg led0,.int .i64 0,.int .i64 er])) (W.setRow r led0):=by
 rw[e]
 exact⟨V0,rfl,own0 _ _,(A.setRow k hk _).low⟩
end Go.Proofs.YtnkpdfjnjmmleaaGreatDoor
