/- Joined: FlagsB. -/
import Derived.Test.YtnkpdfjnjmmleaaGreatDoorGk
import Derived.Test.YtnkpdfjnjmmleaaGreatDoorGb
set_option linter.unusedVariables false
set_option linter.unusedSimpArgs false
namespace Go.Proofs.YtnkpdfjnjmmleaaGreatDoor
open Go.RowKit Go.Bw Go.Maps Go.Shelf Go.Bw.Fall
def L0:Led:=⟨0,[],[],[],[],[],[],[],[]⟩
def V0:LedV:=⟨.slice none 0 0,.slice none 0 0,.slice none 0 0,.slice none 0 0,.slice none 0 0,.slice none 0 0,.slice none 0 0,.slice none 0 0,[]⟩
theorem rows0:V0.rows.Pairwise ApartV:=by
 have h:∀ x∈V0.rows,x=.slice none 0 0:=by simp[LedV.rows,V0]
 rw[List.pairwise_iff_getElem]
 intro i j hi hj _ b hb
 rw[h _ (List.getElem_mem hi)] at hb
 cases hb
theorem own0 (w:World) (B:Nat):LedOwn w B V0 L0 :=
 ⟨OwnOf.nil _ _ _ _ _,OwnOf.nil _ _ _ _ _,OwnOf.nil _ _ _ _ _,rfl,OwnOf.nil _ _ _ _ _,(fun p hp=>by cases hp),OwnOf.nil _ _ _ _ _,OwnOf.nil _ _ _ _ _,OwnOf.nil _ _ _ _ _,OwnOf.nil _ _ _ _ _,rows0,by simp[L0],by simp[L0]⟩
theorem short0:L0.Short:=⟨by decide,by decide,by decide,by decide,by decide,by decide,by decide,by decide,by simp[L0]⟩
noncomputable def flagsA (L:Led):Led×Int:=by
 classical
 exact if L.Good then (match flagsO L with|some m=>(m,0)|none=>(L0,4)) else (L0,43)
theorem flagsA_bad {L:Led} (h:¬ L.Good):flagsA L=(L0,43):=by unfold flagsA;rw[if_neg h]
theorem flagsA_some {L m:Led} (h:L.Good) (hm:flagsO L=some m):flagsA L=(m,0):=by unfold flagsA;rw[if_pos h,hm]
theorem flagsA_none {L:Led} (h:L.Good) (hm:flagsO L=none):flagsA L=(L0,4):=by unfold flagsA;rw[if_pos h,hm]
theorem flagsA_good {L:Led} (h:L.Good) (h0:(flagsA L).2=0):flagsO L=some (flagsA L).1 /\ (flagsA L).1.Good:=by
 cases hm:flagsO L with
 | none=>rw[flagsA_none h hm] at h0;cases h0
 | some m=>rw[flagsA_some h hm];exact⟨rfl,flagsO_good h hm⟩
theorem flagsA_short (L:Led):(flagsA L).1.Short:=by
 by_cases h:L.Good
 ·cases hm:flagsO L with
  | none=>rw[flagsA_none h hm];exact short0
  | some m=>rw[flagsA_some h hm];exact good_short (flagsO_good h hm)
 ·rw[flagsA_bad h];exact short0
def LedRet (w:World) (r:Led×Int) (e:Ending) (w':World):Prop:=∃ U:LedV,e=.returned (.tuple #[U.val r.1,.int .i64 r.2]) /\ LedOwn w' w.heap.size U r.1 /\ Below w.heap.size w w'
theorem FlagsOut.ret {w:World} {L:Led} {e:Ending} {w':World} (h:FlagsOut w L e w'):LedRet w (flagsA L) e w':=by
 obtain⟨h|h|h,hb⟩:=h
 ·obtain⟨hg,rfl⟩:=h
  rw[flagsA_bad hg]
  exact⟨V0,rfl,own0 _ _,hb⟩
 ·obtain⟨hg,hm,rfl⟩:=h
  rw[flagsA_none hg hm]
  exact⟨V0,rfl,own0 _ _,hb⟩
 ·obtain⟨hg,m,V,hm,rfl,ho⟩:=h
  rw[flagsA_some hg hm]
  exact⟨V,rfl,ho,hb⟩
theorem flags_any (w:World) (V:LedV) (L:Led) (h:LedAt w V L) (hL:L.accts.length <= 1024) (hGr:Grd w):Calls Tryz.prog 30 #[V.val L] w (FlagsOut w L):=by
 by_cases hg:L.Good
 ·obtain⟨h1,h2,_⟩:=good_bulk hg
  exact flags_good w V L h hL hg h1 (fun a ha=>by have:=h2 a ha;omega) hGr
 ·refine (flags_bad w V L h hL hg).mono ?_
  rintro e w' ⟨he,hb⟩
  exact⟨Or.inl ⟨hg,he⟩,hb⟩
theorem flags_ret (w:World) (V:LedV) (L:Led) (h:LedAt w V L) (hL:L.accts.length <= 1024) (hGr:Grd w):Calls Tryz.prog 30 #[V.val L] w (LedRet w (flagsA L)):=(flags_any w V L h hL hGr).mono fun e w' h=>h.ret
end Go.Proofs.YtnkpdfjnjmmleaaGreatDoor
