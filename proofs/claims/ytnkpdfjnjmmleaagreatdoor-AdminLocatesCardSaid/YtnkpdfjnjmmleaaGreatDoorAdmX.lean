/- What the laws' wakes ask, plainly: the first ledger, an account, an underlying, an instrument. -/
import Derived.Test.YtnkpdfjnjmmleaaGreatDoorGn
set_option linter.unusedVariables false
set_option linter.unusedSimpArgs false
namespace Go.Proofs.YtnkpdfjnjmmleaaGreatDoor
open Go.RowKit Go.Bw Go.Maps Go.Shelf Go.Bw.Fall
def gold:Und:=⟨⟨#[71,79,76,68]⟩,0,2500,2000⟩
def futr (m:Int):Ins:=⟨2,0,10,0,30,false,m⟩
def fL (n:Nat) (us:List Und) (is:List Ins) (av:List Int):Led:=⟨0,[⟨1000000,0⟩],us,is,List.replicate n ⟨-1,[0],false,0⟩,[],[],av,[]⟩
theorem fl_good:(fL 2 [] [] []).Good:=by
 refine⟨by simp[fL],by simp[fL],⟨by simp[fL],by simp[fL],by simp[fL],by simp[fL],?_,by simp[fL],by simp[fL],by simp[fL]⟩,⟨⟨by simp[fL,Led.parents],by simp[fL,Led.parents],?_⟩,?_⟩,⟨by simp[fL],by simp[fL],fun i a b h=>by simp[fL] at h⟩,⟨by simp[fL],by simp[fL],fun i a b h=>by simp[fL] at h⟩,⟨by simp[fL],by simp[fL],by simp[fL],by simp[fL],fun i a b h=>by simp[fL] at h⟩,by simp[fL]⟩
 ·intro n c hc
  obtain⟨rfl,rfl⟩:n=0 /\ c=⟨1000000,0⟩:=by
   have h1:=(List.getElem?_eq_some_iff.1 hc).1
   have:n=0:=by simpa [fL] using h1
   subst this
   exact⟨rfl,by simpa [fL] using hc.symm⟩
  exact⟨by decide,by decide,by decide,by decide,fun _=>rfl⟩
 ·intro v p hp
  left
  have:=List.mem_of_getElem? hp
  simpa [fL,Led.parents] using this
 ·intro v a ha
  have:=List.mem_of_getElem? ha
  obtain rfl:a=⟨-1,[0],false,0⟩:=by simpa [fL] using this
  exact⟨rfl,by decide,by decide,fun _=>⟨rfl,rfl⟩,by decide⟩
theorem fl_acct:admA (fL 2 [] [] []) (accountS (fL 2 [] [] []) (-1))=(fL 3 [] [] [],2,0):=by
 have hc:chkA ((fL 2 [] [] []).parents++[-1])=0:=by
  unfold chkA
  rw[if_neg (by simp[fL,Led.parents]),if_neg (by simp[fL,Led.parents]),if_pos]
  refine⟨by simp[fL,Led.parents],by simp[fL,Led.parents],?_⟩
  intro v p hp
  left
  have:=List.mem_of_getElem? hp
  simpa [fL,Led.parents] using this
 have e:accountS (fL 2 [] [] []) (-1)=⟨fL 3 [] [] [],2,0⟩:=by unfold accountS;rw[if_pos hc];rfl
 have g:(fL 3 [] [] []).Good:=by
  have:=accountS_good fl_good (p:=-1) (by rw[e])
  rw[e] at this
  exact this
 have f:flagsA (fL 3 [] [] [])=(fL 3 [] [] [],0):=flagsA_some g (by kernel_rfl)
 rw[e,admA_ok fl_good rfl (by rw[f])]
 show ((flagsA (fL 3 [] [] [])).1,(2:Int),(0:Int))=_
 rw[f]
theorem fl_good3:(fL 3 [] [] []).Good:=by
 have h:=fl_acct
 have:=(admA_yes (L:=fL 2 [] [] []) (r:=accountS (fL 2 [] [] []) (-1)) (by rw[h]))
 have g:=(flagsA_good (accountS_good this.1 this.2.1) this.2.2.1).2
 rw[<- this.2.2.2.1,h] at g
 exact g
theorem fl_under:admA (fL 3 [] [] []) (underS (fL 3 [] [] []) gold)=(fL 3 [gold] [] [],0,0):=by
 have e:underS (fL 3 [] [] []) gold=⟨fL 3 [gold] [] [],0,0⟩:=by
  unfold underS
  rw[if_pos (by simp[fL]),if_pos ⟨by decide,by simp[fL]⟩,if_pos ⟨by decide,by decide,by simp[fL,gold],by decide,by decide,by decide,by decide⟩]
  rfl
 have g:(fL 3 [gold] [] []).Good:=by
  have:=underS_good fl_good3 (u:=gold) (by rw[e])
  rw[e] at this
  exact this
 have f:flagsA (fL 3 [gold] [] [])=(fL 3 [gold] [] [],0):=flagsA_some g (by kernel_rfl)
 rw[e,admA_ok fl_good3 rfl (by rw[f])]
 show ((flagsA (fL 3 [gold] [] [])).1,(0:Int),(0:Int))=_
 rw[f]
theorem fl_good4:(fL 3 [gold] [] []).Good:=by
 have h:=fl_under
 have:=(admA_yes (L:=fL 3 [] [] []) (r:=underS (fL 3 [] [] []) gold) (by rw[h]))
 have g:=(flagsA_good (underS_good this.1 this.2.1) this.2.2.1).2
 rw[<- this.2.2.2.1,h] at g
 exact g
theorem fl_instr:admA (fL 3 [gold] [] []) (instrS (fL 3 [gold] [] []) (futr 0))=(fL 3 [gold] [futr 2500] [0],0,0):=by
 have m:markA (fL 3 [gold] [] []) (futr 0)=(2500,0):=by kernel_rfl
 have e:instrS (fL 3 [gold] [] []) (futr 0)=⟨fL 3 [gold] [futr 2500] [0],0,0⟩:=by
  unfold instrS
  rw[if_pos (by simp[fL]),if_pos ⟨by decide,by simp[fL,futr,Ins.noMark],by decide,by decide,by decide,by decide,Or.inr (Or.inl (by decide))⟩,if_pos (Or.inr (by decide)),m,if_pos rfl,if_pos (by decide)]
  rfl
 have g:(fL 3 [gold] [futr 2500] [0]).Good:=by
  have:=instrS_good fl_good4 (i:=futr 0) (by rw[e])
  rw[e] at this
  exact this
 have f:flagsA (fL 3 [gold] [futr 2500] [0])=(fL 3 [gold] [futr 2500] [0],0):=flagsA_some g (by kernel_rfl)
 rw[e,admA_ok fl_good4 rfl (by rw[f])]
 show ((flagsA (fL 3 [gold] [futr 2500] [0])).1,(0:Int),(0:Int))=_
 rw[f]
end Go.Proofs.YtnkpdfjnjmmleaaGreatDoor
