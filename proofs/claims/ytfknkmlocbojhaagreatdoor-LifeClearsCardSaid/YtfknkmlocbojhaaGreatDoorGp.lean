/- Joined: FlagsB. -/
import Derived.Test.YtfknkmlocbojhaaGreatDoorGk
import Derived.Test.YtfknkmlocbojhaaGreatDoorGb
set_option linter.unusedVariables false
set_option linter.unusedSimpArgs false
namespace Go.Proofs.YtfknkmlocbojhaaGreatDoor
open Go.RowKit Go.Bw Go.Maps Go.Shelf Go.Bw.Fall
def L0:aH:=⟨0,[],[],[],[],[],[],[],[]⟩
def V0:aC:=⟨.slice none 0 0,.slice none 0 0,.slice none 0 0,.slice none 0 0,.slice none 0 0,.slice none 0 0,.slice none 0 0,.slice none 0 0,[]⟩
theorem Ot:V0.rows.Pairwise fO:=by
 have h:∀ x∈V0.rows,x=.slice none 0 0:=by simp[aC.rows,V0]
 rw[List.pairwise_iff_getElem];intro i j hi hj _ b hb;rw[h _ (List.getElem_mem hi)] at hb;cases hb
theorem J8 (w:World) (B:Nat):aZ w B V0 L0 :=
 ⟨aT.nil _ _ _ _ _,aT.nil _ _ _ _ _,aT.nil _ _ _ _ _,rfl,aT.nil _ _ _ _ _,(fun p hp=>by cases hp),aT.nil _ _ _ _ _,aT.nil _ _ _ _ _,aT.nil _ _ _ _ _,aT.nil _ _ _ _ _,Ot,by simp[L0],by simp[L0]⟩
noncomputable def fD (L:aH):aH×Int:=by
 classical
 exact if L.Good then (match fM L with|some m=>(m,0)|none=>(L0,4)) else (L0,43)
theorem Du {L:aH} (h:¬ L.Good):fD L=(L0,43):=by unfold fD;rw[if_neg h]
theorem kz {L m:aH} (h:L.Good) (hm:fM L=some m):fD L=(m,0):=by unfold fD;rw[if_pos h,hm]
theorem sJ {L:aH} (h:L.Good) (hm:fM L=none):fD L=(L0,4):=by unfold fD;rw[if_pos h,hm]
theorem sH {L:aH} (h:L.Good) (h0:(fD L).2=0):fM L=some (fD L).1/\(fD L).1.Good:=by
 cases hm:fM L with
 | none=>rw[sJ h hm] at h0;cases h0
 | some m=>rw[kz h hm];exact⟨rfl,Ac h hm⟩
def Jb (w:World) (r:aH×Int) (e:Ending) (w':World):Prop:=∃ U:aC,e=.returned (.tuple #[U.val r.1,.int .i64 r.2])/\aZ w' w.heap.size U r.1/\Below w.heap.size w w'
theorem qA.ret {w:World} {L:aH} {e:Ending} {w':World} (h:qA w L e w'):Jb w (fD L) e w':=by
 obtain⟨h|h|h,hb⟩:=h
 ·obtain⟨hg,rfl⟩:=h;rw[Du hg];exact⟨V0,rfl,J8 _ _,hb⟩
 ·obtain⟨hg,hm,rfl⟩:=h;rw[sJ hg hm];exact⟨V0,rfl,J8 _ _,hb⟩
 obtain⟨hg,m,V,hm,rfl,ho⟩:=h;rw[kz hg hm];exact⟨V,rfl,ho,hb⟩
theorem GY (w:World) (V:aC) (L:aH) (h:bJ w V L) (hL:L.ai.length<=1024) (hGr:nM w):Calls Tryz.prog 27 #[V.val L] w (qA w L):=by
 by_cases hg:L.Good
 ·obtain⟨h1,h2,_⟩:=dM hg;exact Dv w V L h hL hg h1 (fun a ha=>by have:=h2 a ha;omega) hGr
 refine (GZ w V L h hL hg).mono ?_;rintro e w' ⟨he,hb⟩;exact⟨Or.inl ⟨hg,he⟩,hb⟩
theorem G9 (w:World) (V:aC) (L:aH) (h:bJ w V L) (hL:L.ai.length<=1024) (hGr:nM w):Calls Tryz.prog 27 #[V.val L] w (Jb w (fD L)):=(GY w V L h hL hGr).mono fun e w' h=>h.ret
end Go.Proofs.YtfknkmlocbojhaaGreatDoor
