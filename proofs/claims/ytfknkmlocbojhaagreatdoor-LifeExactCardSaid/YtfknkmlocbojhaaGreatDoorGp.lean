/- Joined: FlagsB. -/
import Derived.Test.YtfknkmlocbojhaaGreatDoorGk
import Derived.Test.YtfknkmlocbojhaaGreatDoorGb
set_option linter.unusedVariables false
set_option linter.unusedSimpArgs false
namespace Go.Proofs.YtfknkmlocbojhaaGreatDoor
open Go.RowKit Go.Bw Go.Maps Go.Shelf Go.Bw.Fall
def L0:aI:=⟨0,[],[],[],[],[],[],[],[]⟩
def V0:aG:=⟨.slice none 0 0,.slice none 0 0,.slice none 0 0,.slice none 0 0,.slice none 0 0,.slice none 0 0,.slice none 0 0,.slice none 0 0,[]⟩
theorem Vf:V0.rows.Pairwise fZ:=by
 have h:∀ x∈V0.rows,x=.slice none 0 0:=by simp[aG.rows,V0]
 rw[List.pairwise_iff_getElem];intro i j hi hj _ b hb;rw[h _ (List.getElem_mem hi)] at hb;cases hb
theorem Rk (w:World) (B:Nat):aX w B V0 L0 :=
 ⟨aY.nil _ _ _ _ _,aY.nil _ _ _ _ _,aY.nil _ _ _ _ _,rfl,aY.nil _ _ _ _ _,(fun p hp=>by cases hp),aY.nil _ _ _ _ _,aY.nil _ _ _ _ _,aY.nil _ _ _ _ _,aY.nil _ _ _ _ _,Vf,by simp[L0],by simp[L0]⟩
theorem zx:L0.Short:=⟨by decide,by decide,by decide,by decide,by decide,by decide,by decide,by decide,by simp[L0]⟩
noncomputable def fK (L:aI):aI×Int:=by
 classical
 exact if L.Good then (match gJ L with|some m=>(m,0)|none=>(L0,4)) else (L0,43)
theorem yB {L:aI} (h:¬ L.Good):fK L=(L0,43):=by unfold fK;rw[if_neg h]
theorem kM {L m:aI} (h:L.Good) (hm:gJ L=some m):fK L=(m,0):=by unfold fK;rw[if_pos h,hm]
theorem qN {L:aI} (h:L.Good) (hm:gJ L=none):fK L=(L0,4):=by unfold fK;rw[if_pos h,hm]
theorem kL {L:aI} (h:L.Good) (h0:(fK L).2=0):gJ L=some (fK L).1/\(fK L).1.Good:=by
 cases hm:gJ L with
 | none=>rw[qN h hm] at h0;cases h0
 | some m=>rw[kM h hm];exact⟨rfl,wH h hm⟩
theorem Dx (L:aI):(fK L).1.Short:=by
 by_cases h:L.Good
 ·cases hm:gJ L with
  | none=>rw[qN h hm];exact zx
  | some m=>rw[kM h hm];exact Jj (wH h hm)
 rw[yB h];exact zx
def Pg (w:World) (r:aI×Int) (e:Ending) (w':World):Prop:=∃ U:aG,e=.returned (.tuple #[U.val r.1,.int .i64 r.2])/\aX w' w.heap.size U r.1/\Below w.heap.size w w'
theorem uf.ret {w:World} {L:aI} {e:Ending} {w':World} (h:uf w L e w'):Pg w (fK L) e w':=by
 obtain⟨h|h|h,hb⟩:=h
 ·obtain⟨hg,rfl⟩:=h;rw[yB hg];exact⟨V0,rfl,Rk _ _,hb⟩
 ·obtain⟨hg,hm,rfl⟩:=h;rw[qN hg hm];exact⟨V0,rfl,Rk _ _,hb⟩
 obtain⟨hg,m,V,hm,rfl,ho⟩:=h;rw[kM hg hm];exact⟨V,rfl,ho,hb⟩
theorem Np (w:World) (V:aG) (L:aI) (h:bJ w V L) (hL:L.ai.length<=1024) (hGr:nV w):Calls Tryz.prog 27 #[V.val L] w (uf w L):=by
 by_cases hg:L.Good
 ·obtain⟨h1,h2,_⟩:=dR hg;exact Jf w V L h hL hg h1 (fun a ha=>by have:=h2 a ha;omega) hGr
 refine (Nq w V L h hL hg).mono ?_;rintro e w' ⟨he,hb⟩;exact⟨Or.inl ⟨hg,he⟩,hb⟩
theorem Nr (w:World) (V:aG) (L:aI) (h:bJ w V L) (hL:L.ai.length<=1024) (hGr:nV w):Calls Tryz.prog 27 #[V.val L] w (Pg w (fK L)):=(Np w V L h hL hGr).mono fun e w' h=>h.ret
end Go.Proofs.YtfknkmlocbojhaaGreatDoor
