/- Joined: FlagsB. -/
import Derived.Test.YtcepekniflaoaaaGreatDoorGk
import Derived.Test.YtcepekniflaoaaaGreatDoorGb
set_option linter.unusedVariables false
set_option linter.unusedSimpArgs false
namespace Go.Proofs.YtcepekniflaoaaaGreatDoor
open Go.RowKit Go.Bw Go.Maps Go.Shelf Go.Bw.Fall
def L0:aH:=⟨0,[],[],[],[],[],[],[],[]⟩
def V0:aB:=⟨.slice none 0 0,.slice none 0 0,.slice none 0 0,.slice none 0 0,.slice none 0 0,.slice none 0 0,.slice none 0 0,.slice none 0 0,[]⟩
theorem Ri:V0.rows.Pairwise gW:=by
 have h:∀ x∈V0.rows,x=.slice none 0 0:=by simp[aB.rows,V0]
 rw[List.pairwise_iff_getElem];intro i j hi hj _ b hb;rw[h _ (List.getElem_mem hi)] at hb;cases hb
theorem FW (w:World) (B:Nat):bF w B V0 L0 :=
 ⟨aV.nil _ _ _ _ _,aV.nil _ _ _ _ _,aV.nil _ _ _ _ _,rfl,aV.nil _ _ _ _ _,(fun p hp=>by cases hp),aV.nil _ _ _ _ _,aV.nil _ _ _ _ _,aV.nil _ _ _ _ _,aV.nil _ _ _ _ _,Ri,by simp[L0],by simp[L0]⟩
theorem yh:L0.Short:=⟨by decide,by decide,by decide,by decide,by decide,by decide,by decide,by decide,by simp[L0]⟩
noncomputable def gJ (L:aH):aH×Int:=by
 classical
 exact if L.Good then (match jR L with|some m=>(m,0)|none=>(L0,4)) else (L0,43)
theorem wY {L:aH} (h:¬ L.Good):gJ L=(L0,43):=by unfold gJ;rw[if_neg h]
theorem mW {L m:aH} (h:L.Good) (hm:jR L=some m):gJ L=(m,0):=by unfold gJ;rw[if_pos h,hm]
theorem vg {L:aH} (h:L.Good) (hm:jR L=none):gJ L=(L0,4):=by unfold gJ;rw[if_pos h,hm]
theorem Aa (L:aH):(gJ L).1.Short:=by
 by_cases h:L.Good
 ·cases hm:jR L with
  | none=>rw[vg h hm];exact yh
  | some m=>rw[mW h hm];exact EW (Bv h hm)
 rw[wY h];exact yh
def Eh (w:World) (r:aH×Int) (e:Ending) (w':World):Prop:=∃ U:aB,e=.returned (.tuple #[U.val r.1,.int .i64 r.2])/\bF w' w.heap.size U r.1/\Below w.heap.size w w'
theorem pW.ret {w:World} {L:aH} {e:Ending} {w':World} (h:pW w L e w'):Eh w (gJ L) e w':=by
 obtain⟨h|h|h,hb⟩:=h
 ·obtain⟨hg,rfl⟩:=h;rw[wY hg];exact⟨V0,rfl,FW _ _,hb⟩
 ·obtain⟨hg,hm,rfl⟩:=h;rw[vg hg hm];exact⟨V0,rfl,FW _ _,hb⟩
 obtain⟨hg,m,V,hm,rfl,ho⟩:=h;rw[mW hg hm];exact⟨V,rfl,ho,hb⟩
theorem Jr (w:World) (V:aB) (L:aH) (h:bK w V L) (hL:L.ai.length<=1024) (hGr:rF w):Calls Tryz.prog 62 #[V.val L] w (pW w L):=by
 by_cases hg:L.Good
 ·obtain⟨h1,h2,_⟩:=iq hg;exact EJ w V L h hL hg h1 (fun a ha=>by have:=h2 a ha;omega) hGr
 refine (Js w V L h hL hg).mono ?_;rintro e w' ⟨he,hb⟩;exact⟨Or.inl ⟨hg,he⟩,hb⟩
theorem Jt (w:World) (V:aB) (L:aH) (h:bK w V L) (hL:L.ai.length<=1024) (hGr:rF w):Calls Tryz.prog 62 #[V.val L] w (Eh w (gJ L)):=(Jr w V L h hL hGr).mono fun e w' h=>h.ret
end Go.Proofs.YtcepekniflaoaaaGreatDoor
