/- Joined: FlagsB. -/
import Derived.Test.YtcepekniflaoaaaGreatDoorGk
import Derived.Test.YtcepekniflaoaaaGreatDoorGb
set_option linter.unusedVariables false
set_option linter.unusedSimpArgs false
namespace Go.Proofs.YtcepekniflaoaaaGreatDoor
open Go.RowKit Go.Bw Go.Maps Go.Shelf Go.Bw.Fall
def L0:aI:=⟨0,[],[],[],[],[],[],[],[]⟩
def V0:aC:=⟨.slice none 0 0,.slice none 0 0,.slice none 0 0,.slice none 0 0,.slice none 0 0,.slice none 0 0,.slice none 0 0,.slice none 0 0,[]⟩
theorem Qz:V0.rows.Pairwise gG:=by
 have h:∀ x∈V0.rows,x=.slice none 0 0:=by simp[aC.rows,V0]
 rw[List.pairwise_iff_getElem];intro i j hi hj _ b hb;rw[h _ (List.getElem_mem hi)] at hb;cases hb
theorem Fv (w:World) (B:Nat):bD w B V0 L0 :=
 ⟨aY.nil _ _ _ _ _,aY.nil _ _ _ _ _,aY.nil _ _ _ _ _,rfl,aY.nil _ _ _ _ _,(fun p hp=>by cases hp),aY.nil _ _ _ _ _,aY.nil _ _ _ _ _,aY.nil _ _ _ _ _,aY.nil _ _ _ _ _,Qz,by simp[L0],by simp[L0]⟩
theorem xP:L0.Short:=⟨by decide,by decide,by decide,by decide,by decide,by decide,by decide,by decide,by simp[L0]⟩
noncomputable def fQ (L:aI):aI×Int:=by
 classical
 exact if L.Good then (match jP L with|some m=>(m,0)|none=>(L0,4)) else (L0,43)
theorem wO {L:aI} (h:¬ L.Good):fQ L=(L0,43):=by unfold fQ;rw[if_neg h]
theorem mJ {L m:aI} (h:L.Good) (hm:jP L=some m):fQ L=(m,0):=by unfold fQ;rw[if_pos h,hm]
theorem uO {L:aI} (h:L.Good) (hm:jP L=none):fQ L=(L0,4):=by unfold fQ;rw[if_pos h,hm]
theorem zL (L:aI):(fQ L).1.Short:=by
 by_cases h:L.Good
 ·cases hm:jP L with
  | none=>rw[uO h hm];exact xP
  | some m=>rw[mJ h hm];exact Ez (Bg h hm)
 rw[wO h];exact xP
def Ea (w:World) (r:aI×Int) (e:Ending) (w':World):Prop:=∃ U:aC,e=.returned (.tuple #[U.val r.1,.int .i64 r.2])/\bD w' w.heap.size U r.1/\Below w.heap.size w w'
theorem o7.ret {w:World} {L:aI} {e:Ending} {w':World} (h:o7 w L e w'):Ea w (fQ L) e w':=by
 obtain⟨h|h|h,hb⟩:=h
 ·obtain⟨hg,rfl⟩:=h;rw[wO hg];exact⟨V0,rfl,Fv _ _,hb⟩
 ·obtain⟨hg,hm,rfl⟩:=h;rw[uO hg hm];exact⟨V0,rfl,Fv _ _,hb⟩
 obtain⟨hg,m,V,hm,rfl,ho⟩:=h;rw[mJ hg hm];exact⟨V,rfl,ho,hb⟩
theorem Ja (w:World) (V:aC) (L:aI) (h:bJ w V L) (hL:L.ai.length<=1024) (hGr:qK w):Calls Tryz.prog 62 #[V.val L] w (o7 w L):=by
 by_cases hg:L.Good
 ·obtain⟨h1,h2,_⟩:=gy hg;exact Ew w V L h hL hg h1 (fun a ha=>by have:=h2 a ha;omega) hGr
 refine (Jb w V L h hL hg).mono ?_;rintro e w' ⟨he,hb⟩;exact⟨Or.inl ⟨hg,he⟩,hb⟩
theorem Jc (w:World) (V:aC) (L:aI) (h:bJ w V L) (hL:L.ai.length<=1024) (hGr:qK w):Calls Tryz.prog 62 #[V.val L] w (Ea w (fQ L)):=(Ja w V L h hL hGr).mono fun e w' h=>h.ret
end Go.Proofs.YtcepekniflaoaaaGreatDoor
