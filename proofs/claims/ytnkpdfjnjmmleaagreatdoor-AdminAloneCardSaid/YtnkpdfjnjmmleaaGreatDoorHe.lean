/- Joined: AdmX, AdmW0, AdmY. -/
import Derived.Test.YtnkpdfjnjmmleaaGreatDoorGn
import Derived.Test.YtnkpdfjnjmmleaaGreatDoorGh
import Derived.Test.YtnkpdfjnjmmleaaGreatDoorGl
import Derived.Test.YtnkpdfjnjmmleaaGreatDoorGk
import Derived.Test.YtnkpdfjnjmmleaaGreatDoorHc
set_option linter.unusedVariables false
set_option linter.unusedSimpArgs false
set_option maxRecDepth 100000
set_option maxHeartbeats 4000000
namespace Go.Proofs.YtnkpdfjnjmmleaaGreatDoor
open Go.RowKit Go.Bw Go.Maps Go.Shelf Go.Bw.Fall
def gold:Und:=⟨⟨#[71,79,76,68]⟩,0,2500,2000⟩
def futr (m:Int):Ins:=⟨2,0,10,0,30,false,m⟩
def fL (n:Nat) (us:List Und) (is:List Ins) (av:List Int):Led:=⟨0,[⟨1000000,0⟩],us,is,List.replicate n ⟨-1,[0],false,0⟩,[],[],av,[]⟩
theorem fl_good:(fL 2 [] [] []).Good:=by
 refine⟨by simp[fL],by simp[fL],⟨by simp[fL],by simp[fL],by simp[fL],by simp[fL],?_,by simp[fL],by simp[fL],by simp[fL]⟩,⟨⟨by simp[fL,Led.parents],by simp[fL,Led.parents],?_⟩,?_⟩,⟨by simp[fL],by simp[fL],fun i a b h=>by simp[fL] at h⟩,⟨by simp[fL],by simp[fL],fun i a b h=>by simp[fL] at h⟩,⟨by simp[fL],by simp[fL],by simp[fL],by simp[fL],fun i a b h=>by simp[fL] at h⟩,by simp[fL]⟩
 ·intro n c hc
  obtain⟨rfl,rfl⟩:n=0 /\ c=⟨1000000,0⟩:=by
   have h1:=(List.getElem?_eq_some_iff.1 hc).1
   have:n=0:=by simpa [fL] using h1
   subst this
   exact⟨rfl,by simpa [fL] using hc.symm⟩
  exact⟨by decide,by decide,by decide,by decide,fun _=>rfl⟩
 ·intro v p hp
  left
  have:=List.mem_of_getElem? hp
  simpa [fL,Led.parents] using this
 ·intro v a ha
  have:=List.mem_of_getElem? ha
  obtain rfl:a=⟨-1,[0],false,0⟩:=by simpa [fL] using this
  exact⟨rfl,by decide,by decide,fun _=>⟨rfl,rfl⟩,by decide⟩
theorem fl_acct:admA (fL 2 [] [] []) (accountS (fL 2 [] [] []) (-1))=(fL 3 [] [] [],2,0):=by
 have hc:chkA ((fL 2 [] [] []).parents++[-1])=0:=by
  unfold chkA
  rw[if_neg (by simp[fL,Led.parents]),if_neg (by simp[fL,Led.parents]),if_pos]
  refine⟨by simp[fL,Led.parents],by simp[fL,Led.parents],?_⟩
  intro v p hp
  left
  have:=List.mem_of_getElem? hp
  simpa [fL,Led.parents] using this
 have e:accountS (fL 2 [] [] []) (-1)=⟨fL 3 [] [] [],2,0⟩:=by unfold accountS;rw[if_pos hc];rfl
 have g:(fL 3 [] [] []).Good:=by
  have:=accountS_good fl_good (p:=-1) (by rw[e])
  rw[e] at this
  exact this
 have f:flagsA (fL 3 [] [] [])=(fL 3 [] [] [],0):=flagsA_some g (by kernel_rfl)
 rw[e,admA_ok fl_good rfl (by rw[f])]
 show ((flagsA (fL 3 [] [] [])).1,(2:Int),(0:Int))=_
 rw[f]
theorem fl_good3:(fL 3 [] [] []).Good:=by
 have h:=fl_acct
 have:=(admA_yes (L:=fL 2 [] [] []) (r:=accountS (fL 2 [] [] []) (-1)) (by rw[h]))
 have g:=(flagsA_good (accountS_good this.1 this.2.1) this.2.2.1).2
 rw[<- this.2.2.2.1,h] at g
 exact g
theorem fl_under:admA (fL 3 [] [] []) (underS (fL 3 [] [] []) gold)=(fL 3 [gold] [] [],0,0):=by
 have e:underS (fL 3 [] [] []) gold=⟨fL 3 [gold] [] [],0,0⟩:=by
  unfold underS
  rw[if_pos (by simp[fL]),if_pos ⟨by decide,by simp[fL]⟩,if_pos ⟨by decide,by decide,by simp[fL,gold],by decide,by decide,by decide,by decide⟩]
  rfl
 have g:(fL 3 [gold] [] []).Good:=by
  have:=underS_good fl_good3 (u:=gold) (by rw[e])
  rw[e] at this
  exact this
 have f:flagsA (fL 3 [gold] [] [])=(fL 3 [gold] [] [],0):=flagsA_some g (by kernel_rfl)
 rw[e,admA_ok fl_good3 rfl (by rw[f])]
 show ((flagsA (fL 3 [gold] [] [])).1,(0:Int),(0:Int))=_
 rw[f]
theorem fl_good4:(fL 3 [gold] [] []).Good:=by
 have h:=fl_under
 have:=(admA_yes (L:=fL 3 [] [] []) (r:=underS (fL 3 [] [] []) gold) (by rw[h]))
 have g:=(flagsA_good (underS_good this.1 this.2.1) this.2.2.1).2
 rw[<- this.2.2.2.1,h] at g
 exact g
theorem fl_instr:admA (fL 3 [gold] [] []) (instrS (fL 3 [gold] [] []) (futr 0))=(fL 3 [gold] [futr 2500] [0],0,0):=by
 have m:markA (fL 3 [gold] [] []) (futr 0)=(2500,0):=by kernel_rfl
 have e:instrS (fL 3 [gold] [] []) (futr 0)=⟨fL 3 [gold] [futr 2500] [0],0,0⟩:=by
  unfold instrS
  rw[if_pos (by simp[fL]),if_pos ⟨by decide,by simp[fL,futr,Ins.noMark],by decide,by decide,by decide,by decide,Or.inr (Or.inl (by decide))⟩,if_pos (Or.inr (by decide)),m,if_pos rfl,if_pos (by decide)]
  rfl
 have g:(fL 3 [gold] [futr 2500] [0]).Good:=by
  have:=instrS_good fl_good4 (i:=futr 0) (by rw[e])
  rw[e] at this
  exact this
 have f:flagsA (fL 3 [gold] [futr 2500] [0])=(fL 3 [gold] [futr 2500] [0],0):=flagsA_some g (by kernel_rfl)
 rw[e,admA_ok fl_good4 rfl (by rw[f])]
 show ((flagsA (fL 3 [gold] [futr 2500] [0])).1,(0:Int),(0:Int))=_
 rw[f]
end Go.Proofs.YtnkpdfjnjmmleaaGreatDoor
namespace Go.Proofs.YtnkpdfjnjmmleaaGreatDoor
open Go.RowKit Go.Bw Go.Maps Go.Shelf
theorem wide_any (w:World) (V:LedV) (L:Led) (h:LedAt w V L) (hb:L.Short) :
 Calls Tryz.prog 12 #[V.val L] w fun e w'=>e=.returned (.bool (decide (1024<L.bulk))) /\ Below w.heap.size w w':=by
 obtain⟨b1,b2,b3,b4,b5,b6,b7,b8⟩:=hb
 obtain⟨a1,c1,a2,c2,a3,c3,a4,c4,a5,c5,a6,c6,a7,c7,a8,c8,e1,e2,e3,e4,e5,e6,e7,e8⟩:=LedAt.opened h
 have R:=zq (show decide (1024<L.bulk)=decide ((1024:Int)<(((((((L.curs.length:Int)+L.unders.length)+L.instrs.length)+L.poss.length)+L.orders.length)+L.avail.length)+L.locs.length)+L.accts.length) from by
  unfold Led.bulk;rw[Bool.eq_iff_iff];simp only[decide_eq_true_eq];omega)
 rw[R.o]
 unfold LedV.val LedV.cells
 rw[e1,e2,e3,e4,e5,e6,e7,e8]
 obtain⟨n1,hn1⟩:∃ n,n=L.curs.length:=⟨_,rfl⟩
 obtain⟨n2,hn2⟩:∃ n,n=L.unders.length:=⟨_,rfl⟩
 obtain⟨n3,hn3⟩:∃ n,n=L.instrs.length:=⟨_,rfl⟩
 obtain⟨n4,hn4⟩:∃ n,n=L.accts.length:=⟨_,rfl⟩
 obtain⟨n5,hn5⟩:∃ n,n=L.poss.length:=⟨_,rfl⟩
 obtain⟨n6,hn6⟩:∃ n,n=L.orders.length:=⟨_,rfl⟩
 obtain⟨n7,hn7⟩:∃ n,n=L.avail.length:=⟨_,rfl⟩
 obtain⟨n8,hn8⟩:∃ n,n=L.locs.length:=⟨_,rfl⟩
 rw[<- hn1] at b1
 rw[<- hn2] at b2
 rw[<- hn3] at b3
 rw[<- hn4] at b4
 rw[<- hn5] at b5
 rw[<- hn6] at b6
 rw[<- hn7] at b7
 rw[<- hn8] at b8
 rw[<- hn1,<- hn2,<- hn3,<- hn4,<- hn5,<- hn6,<- hn7,<- hn8]
 clear h e1 e2 e3 e4 e5 e6 e7 e8 hn1 hn2 hn3 hn4 hn5 hn6 hn7 hn8 R
 go_enter Tryz.func12,Tryz.ntmps12
 go_wp2_with fail
 go_ret
 exact⟨rfl,(Below.refl _ _).alloc (Nat.le_refl _) _⟩
theorem admA_short (L:Led) (r:Adm):(admA L r).1.Short:=by
 by_cases hg:L.Good
 ·by_cases he:r.err=0
  ·by_cases hf:(flagsA r.led).2=0
   ·rw[admA_ok hg he hf];exact flagsA_short _
   ·rw[admA_over hg he hf];exact short0
  ·rw[admA_err hg he];exact short0
 ·rw[admA_bad hg];exact short0
theorem first_led (w:World):Calls Tryz.prog 36 #[] w fun e w'=>∃ V:LedV,e=.returned (V.val (fL 2 [] [] [])) /\ LedAt w' V (fL 2 [] [] []) /\ Below w.heap.size w w':=by
 refine (first_any w).mono ?_
 rintro e w' ⟨rfl,h⟩
 have own:OwnOf w' 0 56 4 Acc.cells (.slice (some ⟨w.heap.size+1+1+1+1,0,none⟩) 2 2) [((⟨-1,[0],false,0⟩:Acc),(.slice (some ⟨w.heap.size+1+1,0,none⟩) 1 1:Value)),(⟨-1,[0],false,0⟩,.slice (some ⟨w.heap.size+1+1+1,0,none⟩) 1 1)] :=
  ⟨rfl,Or.inr ⟨_,2,_,rfl,Nat.zero_le _,h.c4,Nat.le_refl _,by unfold maxLen;omega,rfl,rfl⟩⟩
 refine⟨⟨.slice (some ⟨w.heap.size+1,0,none⟩) 1 1,.slice none 0 0,.slice none 0 0,.slice (some ⟨w.heap.size+1+1+1+1,0,none⟩) 2 2,.slice none 0 0,.slice none 0 0,.slice none 0 0,.slice none 0 0,[((⟨-1,[0],false,0⟩:Acc),(.slice (some ⟨w.heap.size+1+1,0,none⟩) 1 1:Value)),(⟨-1,[0],false,0⟩,.slice (some ⟨w.heap.size+1+1+1,0,none⟩) 1 1)]⟩,rfl,⟨row_one h.c1 rfl,row_nil,row_nil,rfl,own.row acccells_len (by decide),?_,row_nil,row_nil,row_nil,row_nil,?_,?_⟩,h.low⟩
 ·intro p hp
  simp only[List.mem_cons,List.not_mem_nil,or_false] at hp
  rcases hp with rfl|rfl
  ·exact row_one h.c2 rfl
  ·exact row_one h.c3 rfl
 ·intro u hu;simp[fL] at hu
 ·intro a ha x hx
  have:a=⟨-1,[0],false,0⟩:=by simpa [fL] using ha
  subst this
  have:x=0:=by simpa using hx
  omega
theorem bdGold (W:World):(Instr.build 33 #[(0,.string ⟨#[71,79,76,68]⟩),(2,.int .i64 2500),(3,.int .i64 2000)]).run Tryz.prog W=.ok (.agg #[.string ⟨#[71,79,76,68]⟩,.int .i64 0,.int .i64 2500,.int .i64 2000]) W:=by kernel_rfl
theorem bdFut (W:World):(Instr.build 35 #[(0,.int .i64 2),(2,.int .i64 10),(4,.int .i64 30)]).run Tryz.prog W=.ok (.agg #[.int .i64 2,.int .i64 0,.int .i64 10,.int .i64 0,.int .i64 30,.bool false,.int .i64 0]) W:=by kernel_rfl
theorem wakes18_any (w:World) (hG:Grd w):Calls Tryz.prog 11 #[] w fun e w'=>e=.returned (.bool true) /\ Below w.heap.size w w':=by
 have b1:=bdGold
 have b2:=bdFut
 have GR:=zq hG
 have F0:=zq (fun W=>first_led W)
 have A1:=zq (show ∀ W V,LedAt W V (fL 2 [] [] []) -> Grd W -> Calls Tryz.prog 20 #[V.val (fL 2 [] [] []),.int .i64 (-1)] W (AdmRet W (fL 3 [] [] [],2,0)) from fun W V h hG=>by
  have:=aaccount_any W V _ h (by simp[fL]) hG (-1);rw[fl_acct] at this;exact this)
 have A2:=zq (show ∀ W V,LedAt W V (fL 3 [] [] []) -> Grd W -> Calls Tryz.prog 13 #[V.val (fL 3 [] [] []),.agg #[.string ⟨#[71,79,76,68]⟩,.int .i64 0,.int .i64 2500,.int .i64 2000]] W (AdmRet W (fL 3 [gold] [] [],0,0)) from fun W V h hG=>by
  have:=aunder_any W V _ h (by simp[fL]) hG gold (by decide);rw[fl_under] at this;exact this)
 have A3:=zq (show ∀ W V,LedAt W V (fL 3 [gold] [] []) -> Grd W -> Calls Tryz.prog 16 #[V.val (fL 3 [gold] [] []),.agg #[.int .i64 2,.int .i64 0,.int .i64 10,.int .i64 0,.int .i64 30,.bool false,.int .i64 0]] W (AdmRet W (fL 3 [gold] [futr 2500] [0],0,0)) from fun W V h hG=>by
  have:=ainstr_any W V _ h (by simp[fL]) hG (futr 0);rw[fl_instr] at this;exact this)
 clear hG
 go_enter Tryz.func11,Tryz.ntmps11
 go_wp2_with fail
 refine (F0.o _).mono ?_
 rintro e w1 ⟨V1,rfl,hl,hb⟩
 have X1:=zq (And.intro hl hb)
 have C1:=zq (A1.o w1 V1 hl (GR.o.below hb))
 clear hl hb
 unfold LedV.val at C1 ⊢
 obtain⟨K1,hK1⟩:∃ C,C=V1.cells (fL 2 [] [] []):=⟨_,rfl⟩
 rw[<- hK1] at C1 ⊢
 clear hK1
 go_wp2_with fail
 refine C1.o.mono ?_
 rintro e w2 ⟨U2,rfl,own,hb⟩
 have O2:=zq own
 have L2:=zq (ledc own.led)
 have B2:=zq (X1.o.2.trans (hb.mono X1.o.2.size))
 unfold LedV.val
 clear own hb C1
 go_upto_region 2 with (refine led_store (heap_alloc_last _ _) ledc0 L2.o rfl rfl rfl rfl ?_;rw[World.setRow_alloc_new])
 have X3:=zq (show At w (w2.alloc (.cells (U2.cells (fL 3 [] [] [])) 31)) [(w2.heap.size, 31,U2.cells (fL 3 [] [] []))] from by
  have a:At w w2 []:=⟨B2.o,by simp,by simp,by simp⟩
  exact a.alloc _ _)
 have C3:=zq (A2.o _ U2 (O2.o.below ((Below.refl _ _).alloc (Nat.le_refl _) (.cells (U2.cells (fL 3 [] [] [])) 31))).led (GR.o.below X3.o.low))
 unfold LedV.val at C3
 obtain⟨K2,hK2⟩:∃ C,C=U2.cells (fL 3 [] [] []):=⟨_,rfl⟩
 rw[<- hK2] at C3 X3 L2 ⊢
 obtain⟨w3,hw3⟩:∃ s,s=w2.alloc (.cells K2 31):=⟨_,rfl⟩
 obtain⟨q1,hq1⟩:∃ n,n=w2.heap.size:=⟨_,rfl⟩
 rw[<- hw3] at C3 X3
 rw[<- hq1] at X3
 rw[<- hw3,<- hq1]
 clear hw3 hq1 hK2 O2
 go_wp2_with (refine led_load (X3.o.get 0 rfl) L2.o rfl rfl rfl ?_)
 refine C3.o.mono ?_
 rintro e w4 ⟨U4,rfl,own,hb⟩
 have O4:=zq own
 have L4:=zq (ledc own.led)
 have X4:=zq (X3.o.go hb)
 unfold LedV.val
 clear own hb C3
 go_upto_region 3 with (refine led_store (heap_alloc_last _ _) ledc0 L4.o rfl rfl rfl rfl ?_;rw[World.setRow_alloc_new])
 have X5:=zq (X4.o.alloc 31 (U4.cells (fL 3 [gold] [] [])))
 have C5:=zq (A3.o _ U4 (O4.o.below ((Below.refl _ _).alloc (Nat.le_refl _) (.cells (U4.cells (fL 3 [gold] [] [])) 31))).led (GR.o.below X5.o.low))
 unfold LedV.val at C5
 obtain⟨K4,hK4⟩:∃ C,C=U4.cells (fL 3 [gold] [] []):=⟨_,rfl⟩
 rw[<- hK4] at C5 X5 L4 ⊢
 obtain⟨w5,hw5⟩:∃ s,s=w4.alloc (.cells K4 31):=⟨_,rfl⟩
 obtain⟨q2,hq2⟩:∃ n,n=w4.heap.size:=⟨_,rfl⟩
 rw[<- hw5] at C5 X5
 rw[<- hq2] at X5
 rw[<- hw5,<- hq2]
 clear hw5 hq2 hK4 O4
 go_wp2_with (refine led_load (X5.o.get 1 rfl) L4.o rfl rfl rfl ?_)
 refine C5.o.mono ?_
 rintro e w6 ⟨U6,rfl,own,hb⟩
 have O6:=zq own
 have L6:=zq (ledc own.led)
 have X6:=zq (X5.o.go hb)
 obtain⟨g,c,hv,_,_,hcell,_⟩:=own.instrs.slot (k:=0) inscells_len (by decide) rfl
 have HV:=zq hv
 have HC:=zq (show w6.cell? ⟨g,6,none⟩=some (.int .i64 2500) from hcell 6 _ rfl)
 unfold LedV.val
 clear own hb C5 hv hcell
 go_upto_region 4 with (refine led_store (heap_alloc_last _ _) ledc0 L6.o rfl rfl rfl rfl ?_;rw[World.setRow_alloc_new])
 have X7:=zq (X6.o.alloc 31 (U6.cells (fL 3 [gold] [futr 2500] [0])))
 obtain⟨w7,hw7⟩:∃ s,s=w6.alloc (.cells (U6.cells (fL 3 [gold] [futr 2500] [0])) 31):=⟨_,rfl⟩
 obtain⟨q3,hq3⟩:∃ n,n=w6.heap.size:=⟨_,rfl⟩
 have k6:w7.cell? ⟨g,6,none⟩=some (.int .i64 2500):=by rw[hw7];exact ((Mod.refl (fun _=>False) w6).alloc _).cell HC.o (fun h=>h)
 rw[<- hw7,<- hq3] at X7
 rw[<- hw7,<- hq3]
 clear hw7 hq3
 have y3:w7.cell? ⟨q3,3,none⟩=some (.slice (some ⟨g,0,none⟩) 1 c):=X7.o.cell 2 rfl 3 (by show some U6.instrs=_;exact congrArg some HV.o)
 go_wp2_with fail
 go_ret
 exact⟨rfl,X7.o.low⟩
end Go.Proofs.YtnkpdfjnjmmleaaGreatDoor
