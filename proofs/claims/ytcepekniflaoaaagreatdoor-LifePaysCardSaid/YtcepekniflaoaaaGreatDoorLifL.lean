/- life's calls on the turn: Day. -/
import Derived.Test.YtcepekniflaoaaaGreatDoorHk
import Derived.Test.YtcepekniflaoaaaGreatDoorHb
set_option linter.unusedVariables false
set_option linter.unusedSimpArgs false
namespace Go.Bw
open Go.RowKit
theorem lM.noMark {L M:aI} (h:lM L M) (n:Nat):(M.ins n).noMark=(L.ins n).noMark:=by
 have:=congrArg (fun l=>l.getD n (Ins.noMark ⟨0,0,0,0,0,false,0⟩)) h.af
 simp only[List.getD_eq_getElem?_getD,List.getElem?_map] at this
 unfold aI.ins;rw[Int.toNat_natCast,List.getD_eq_getElem?_getD,List.getD_eq_getElem?_getD];cases h1:M.af[n]? <;> cases h2:L.af[n]? <;> simp_all
theorem lM.aN {L M:aI} (h:lM L M) (n:Nat):(M.ins n).aN=(L.ins n).aN:=by
 have:=congrArg Ins.aN (h.noMark n);exact this
theorem lM.lens {L M:aI} (h:lM L M):M.af.length=L.af.length:=by
 have:=congrArg List.length h.af
 simpa using this
end Go.Bw
namespace Go.Proofs.YtcepekniflaoaaaGreatDoor
open Go.RowKit Go.Bw Go.Maps Go.Shelf Go.Bw.Fall
structure yE (w:World) (R0 b:Nat) (bs:List (Nat×TypeId×Array Value)) (a3:Option Addr) (L:aI) (k:Nat) (V':aC) (M:aI) (W':World):Prop where
 iQ:dS w R0 ((b, 57,V'.cells M)::bs) V' M W'
 go:oO k (L.af.drop k) M=oO 0 L.af L
 nH:lM L M
 row:∀ (j:Nat) i,k<=j->L.af[j]?=some i->∃ g,a3=some ⟨g,0,none⟩/\g≠b/\∀ (o:Nat) u,(Ins.cells i)[o]?=some u->W'.cell? ⟨g,j*7+o,none⟩=some u
theorem yE.skip {w:World} {R0 b:Nat} {bs:List (Nat×TypeId×Array Value)} {a3:Option Addr} {L:aI} {k:Nat} {V':aC} {M:aI} {W':World} (h:yE w R0 b bs a3 L k V' M W') {i:Ins} (hi:L.af[k]?=some i) (hn:¬ (i.aN=0\/L.day<=i.aN)):yE w R0 b bs a3 L (k+1) V' M W' :=
 ⟨h.iQ,by rw[<-h.go,drop_at hi,wJ (by rw[h.nH.day];exact hn)],h.nH,fun j x hj hx=>h.row j x (by omega) hx⟩
theorem yE.next {w:World} {R0 b:Nat} {bs:List (Nat×TypeId×Array Value)} {a3:Option Addr} {L:aI} {k:Nat} {V' V2:aC} {M:aI} {W' W2:World} (h:yE w R0 b bs a3 L k V' M W') {i:Ins} (hi:L.af[k]?=some i) (hn:i.aN=0\/L.day<=i.aN) (he:(iG M k).2=0)
 (F:dS w R0 ((b, 57,V2.cells (iG M k).1)::bs) V2 (iG M k).1 W2) (hs:J9 b V'.af (k*7+6) W' W2):yE w R0 b bs a3 L (k+1) V2 (iG M k).1 W2:=by
 have hkl:k<M.af.length:=by rw[h.nH.lens];exact (List.getElem?_eq_some_iff.1 hi).1
 refine⟨F,by rw[<-h.go,drop_at hi,wK (by rw[h.nH.day];exact hn) he],h.nH.trans (qO h.nH.good hkl he),fun j x hj hx=>?_⟩;obtain⟨g,e,hg,hc⟩:=h.row j x (by omega) hx;refine⟨g,e,hg,fun o u hu=>hs g _ u (hc o u hu) hg (fun _=>?_)⟩;have:=(List.getElem?_eq_some_iff.1 hu).1;rw[eP] at this;omega
end Go.Proofs.YtcepekniflaoaaaGreatDoor
