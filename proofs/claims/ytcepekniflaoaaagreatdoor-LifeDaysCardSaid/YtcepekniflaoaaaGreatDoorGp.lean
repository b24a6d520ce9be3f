/- Joined: FlagsB. -/
import Derived.Test.YtcepekniflaoaaaGreatDoorGk
import Derived.Test.YtcepekniflaoaaaGreatDoorGb
set_option linter.unusedVariables false
set_option linter.unusedSimpArgs false
namespace Go.Proofs.YtcepekniflaoaaaGreatDoor
open Go.RowKit Go.Bw Go.Maps Go.Shelf Go.Bw.Fall
def L0:aI:=⟨0,[],[],[],[],[],[],[],[]⟩
def V0:aB:=⟨.slice none 0 0,.slice none 0 0,.slice none 0 0,.slice none 0 0,.slice none 0 0,.slice none 0 0,.slice none 0 0,.slice none 0 0,[]⟩
theorem Rw:V0.rows.Pairwise fP:=by
 have h:∀ x∈V0.rows,x=.slice none 0 0:=by simp[aB.rows,V0]
 rw[List.pairwise_iff_getElem];intro i j hi hj _ b hb;rw[h _ (List.getElem_mem hi)] at hb;cases hb
theorem Gx (w:World) (B:Nat):bn w B V0 L0 :=
 ⟨aV.nil _ _ _ _ _,aV.nil _ _ _ _ _,aV.nil _ _ _ _ _,rfl,aV.nil _ _ _ _ _,(fun p hp=>by cases hp),aV.nil _ _ _ _ _,aV.nil _ _ _ _ _,aV.nil _ _ _ _ _,aV.nil _ _ _ _ _,Rw,by simp[L0],by simp[L0]⟩
theorem yg:L0.Short:=⟨by decide,by decide,by decide,by decide,by decide,by decide,by decide,by decide,by simp[L0]⟩
noncomputable def gu (L:aI):aI×Int:=by
 classical
 exact if L.Good then (match jU L with|some m=>(m,0)|none=>(L0,4)) else (L0,43)
theorem xh {L:aI} (h:¬ L.Good):gu L=(L0,43):=by unfold gu;rw[if_neg h]
theorem mW {L m:aI} (h:L.Good) (hm:jU L=some m):gu L=(m,0):=by unfold gu;rw[if_pos h,hm]
theorem vC {L:aI} (h:L.Good) (hm:jU L=none):gu L=(L0,4):=by unfold gu;rw[if_pos h,hm]
theorem Ae (L:aI):(gu L).1.Short:=by
 by_cases h:L.Good
 ·cases hm:jU L with
  | none=>rw[vC h hm];exact yg
  | some m=>rw[mW h hm];exact Fz (CJ h hm)
 rw[xh h];exact yg
def Ew (w:World) (r:aI×Int) (e:Ending) (w':World):Prop:=∃ U:aB,e=.returned (.tuple #[U.val r.1,.int .i64 r.2])/\bn w' w.heap.size U r.1/\Below w.heap.size w w'
theorem pU.ret {w:World} {L:aI} {e:Ending} {w':World} (h:pU w L e w'):Ew w (gu L) e w':=by
 obtain⟨h|h|h,hb⟩:=h
 ·obtain⟨hg,rfl⟩:=h;rw[xh hg];exact⟨V0,rfl,Gx _ _,hb⟩
 ·obtain⟨hg,hm,rfl⟩:=h;rw[vC hg hm];exact⟨V0,rfl,Gx _ _,hb⟩
 obtain⟨hg,m,V,hm,rfl,ho⟩:=h;rw[mW hg hm];exact⟨V,rfl,ho,hb⟩
theorem JB (w:World) (V:aB) (L:aI) (h:bJ w V L) (hL:L.ai.length<=1024) (hGr:qY w):Calls Tryz.prog 62 #[V.val L] w (pU w L):=by
 by_cases hg:L.Good
 ·obtain⟨h1,h2,_⟩:=iw hg;exact Fq w V L h hL hg h1 (fun a ha=>by have:=h2 a ha;omega) hGr
 refine (JC w V L h hL hg).mono ?_;rintro e w' ⟨he,hb⟩;exact⟨Or.inl ⟨hg,he⟩,hb⟩
theorem JD (w:World) (V:aB) (L:aI) (h:bJ w V L) (hL:L.ai.length<=1024) (hGr:qY w):Calls Tryz.prog 62 #[V.val L] w (Ew w (gu L)):=(JB w V L h hL hGr).mono fun e w' h=>h.ret
end Go.Proofs.YtcepekniflaoaaaGreatDoor
