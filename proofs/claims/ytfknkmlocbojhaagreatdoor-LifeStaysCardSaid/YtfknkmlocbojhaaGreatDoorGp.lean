/- Joined: FlagsB. -/
import Derived.Test.YtfknkmlocbojhaaGreatDoorGk
import Derived.Test.YtfknkmlocbojhaaGreatDoorGb
set_option linter.unusedVariables false
set_option linter.unusedSimpArgs false
namespace Go.Proofs.YtfknkmlocbojhaaGreatDoor
open Go.RowKit Go.Bw Go.Maps Go.Shelf Go.Bw.Fall
def L0:aI:=⟨0,[],[],[],[],[],[],[],[]⟩
def V0:aF:=⟨.slice none 0 0,.slice none 0 0,.slice none 0 0,.slice none 0 0,.slice none 0 0,.slice none 0 0,.slice none 0 0,.slice none 0 0,[]⟩
theorem Ur:V0.rows.Pairwise fO:=by
 have h:∀ x∈V0.rows,x=.slice none 0 0:=by simp[aF.rows,V0]
 rw[List.pairwise_iff_getElem];intro i j hi hj _ b hb;rw[h _ (List.getElem_mem hi)] at hb;cases hb
theorem Qs (w:World) (B:Nat):aW w B V0 L0 :=
 ⟨aZ.nil _ _ _ _ _,aZ.nil _ _ _ _ _,aZ.nil _ _ _ _ _,rfl,aZ.nil _ _ _ _ _,(fun p hp=>by cases hp),aZ.nil _ _ _ _ _,aZ.nil _ _ _ _ _,aZ.nil _ _ _ _ _,aZ.nil _ _ _ _ _,Ur,by simp[L0],by simp[L0]⟩
theorem yO:L0.Short:=⟨by decide,by decide,by decide,by decide,by decide,by decide,by decide,by decide,by simp[L0]⟩
noncomputable def fC (L:aI):aI×Int:=by
 classical
 exact if L.Good then (match gq L with|some m=>(m,0)|none=>(L0,4)) else (L0,43)
theorem xP {L:aI} (h:¬ L.Good):fC L=(L0,43):=by unfold fC;rw[if_neg h]
theorem ku {L m:aI} (h:L.Good) (hm:gq L=some m):fC L=(m,0):=by unfold fC;rw[if_pos h,hm]
theorem qy {L:aI} (h:L.Good) (hm:gq L=none):fC L=(L0,4):=by unfold fC;rw[if_pos h,hm]
theorem jZ {L:aI} (h:L.Good) (h0:(fC L).2=0):gq L=some (fC L).1 /\ (fC L).1.Good:=by
 cases hm:gq L with
 | none=>rw[qy h hm] at h0;cases h0
 | some m=>rw[ku h hm];exact⟨rfl,vP h hm⟩
theorem Cf (L:aI):(fC L).1.Short:=by
 by_cases h:L.Good
 ·cases hm:gq L with
  | none=>rw[qy h hm];exact yO
  | some m=>rw[ku h hm];exact Ir (vP h hm)
 rw[xP h];exact yO
def Oe (w:World) (r:aI×Int) (e:Ending) (w':World):Prop:=∃ U:aF,e=.returned (.tuple #[U.val r.1,.int .i64 r.2]) /\ aW w' w.heap.size U r.1 /\ Below w.heap.size w w'
theorem sZ.ret {w:World} {L:aI} {e:Ending} {w':World} (h:sZ w L e w'):Oe w (fC L) e w':=by
 obtain⟨h|h|h,hb⟩:=h
 ·obtain⟨hg,rfl⟩:=h;rw[xP hg];exact⟨V0,rfl,Qs _ _,hb⟩
 ·obtain⟨hg,hm,rfl⟩:=h;rw[qy hg hm];exact⟨V0,rfl,Qs _ _,hb⟩
 obtain⟨hg,m,V,hm,rfl,ho⟩:=h;rw[ku hg hm];exact⟨V,rfl,ho,hb⟩
theorem Lp (w:World) (V:aF) (L:aI) (h:bJ w V L) (hL:L.ai.length <= 1024) (hGr:oP w):Calls Tryz.prog 27 #[V.val L] w (sZ w L):=by
 by_cases hg:L.Good
 ·obtain⟨h1,h2,_⟩:=iw hg;exact Il w V L h hL hg h1 (fun a ha=>by have:=h2 a ha;omega) hGr
 refine (Lr w V L h hL hg).mono ?_;rintro e w' ⟨he,hb⟩;exact⟨Or.inl ⟨hg,he⟩,hb⟩
theorem zV (w:World) (V:aF) (L:aI) (h:bJ w V L) (hL:L.ai.length <= 1024) (hGr:oP w):Calls Tryz.prog 27 #[V.val L] w (Oe w (fC L)):=(Lp w V L h hL hGr).mono fun e w' h=>h.ret
end Go.Proofs.YtfknkmlocbojhaaGreatDoor
