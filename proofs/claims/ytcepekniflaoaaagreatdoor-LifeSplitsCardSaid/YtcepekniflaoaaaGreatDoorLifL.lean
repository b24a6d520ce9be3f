/- life's calls on the turn: Day. -/
import Derived.Test.YtcepekniflaoaaaGreatDoorHk
import Derived.Test.YtcepekniflaoaaaGreatDoorHb
set_option linter.unusedVariables false
set_option linter.unusedSimpArgs false
namespace Go.Bw
open Go.RowKit
theorem dB.Q9 {w W:World} {R0 b:Nat} {bs:List (Nat×TypeId×Array Value)} {V:aB} {l L:aH} {T:TypeId} (h:dB w R0 bs V l W) (i:Nat) (hi:bs[i]?=some (b,T,V.cells L)):dB w R0 (bs.set i (b,T,({ V with aJ:=.slice none 0 0 }:aB).cells L)) { V with aJ:=.slice none 0 0 } { l with aJ:=[] } (W.setCell ⟨b,8,none⟩ (.slice none 0 0)):=by
 have o1:=h.own.xK (w':=W) (v:=.slice none 0 0) (xs:=[]) (Mod.refl _ W) (aV.nil _ _ _ _ _) (fun k hk=>by simp[Value.ownBlock] at hk);have F:dB w R0 bs { V with aJ:=.slice none 0 0 } { l with aJ:=[] } W:=⟨h.at_,o1,fun y hy=>nX (q:=7) (h.uq y hy) rfl (by simp[Value.ownBlock]),h.rb,h.lo⟩;exact F.cell i hi 8 _
theorem lS.noMark {L M:aH} (h:lS L M) (n:Nat):(M.ins n).noMark=(L.ins n).noMark:=by
 have:=congrArg (fun l=>l.getD n (Ins.noMark ⟨0,0,0,0,0,false,0⟩)) h.af
 simp only[List.getD_eq_getElem?_getD,List.getElem?_map] at this
 unfold aH.ins;rw[Int.toNat_natCast,List.getD_eq_getElem?_getD,List.getD_eq_getElem?_getD];cases h1:M.af[n]? <;> cases h2:L.af[n]? <;> simp_all
theorem lS.aN {L M:aH} (h:lS L M) (n:Nat):(M.ins n).aN=(L.ins n).aN:=by
 have:=congrArg Ins.aN (h.noMark n);exact this
theorem lS.lens {L M:aH} (h:lS L M):M.af.length=L.af.length:=by
 have:=congrArg List.length h.af
 simpa using this
end Go.Bw
namespace Go.Proofs.YtcepekniflaoaaaGreatDoor
open Go.RowKit Go.Bw Go.Maps Go.Shelf Go.Bw.Fall
structure yQ (w:World) (R0 b:Nat) (bs:List (Nat×TypeId×Array Value)) (a3:Option Addr) (L:aH) (k:Nat) (V':aB) (M:aH) (W':World):Prop where
 jl:dB w R0 ((b, 57,V'.cells M)::bs) V' M W'
 go:pF k (L.af.drop k) M=pF 0 L.af L
 nM:lS L M
 row:∀ (j:Nat) i,k<=j->L.af[j]?=some i->∃ g,a3=some ⟨g,0,none⟩/\g≠b/\∀ (o:Nat) u,(Ins.cells i)[o]?=some u->W'.cell? ⟨g,j*7+o,none⟩=some u
theorem yQ.skip {w:World} {R0 b:Nat} {bs:List (Nat×TypeId×Array Value)} {a3:Option Addr} {L:aH} {k:Nat} {V':aB} {M:aH} {W':World} (h:yQ w R0 b bs a3 L k V' M W') {i:Ins} (hi:L.af[k]?=some i) (hn:¬ (i.aN=0\/L.day<=i.aN)):yQ w R0 b bs a3 L (k+1) V' M W' :=
 ⟨h.jl,by rw[<-h.go,drop_at hi,wV (by rw[h.nM.day];exact hn)],h.nM,fun j x hj hx=>h.row j x (by omega) hx⟩
theorem yQ.next {w:World} {R0 b:Nat} {bs:List (Nat×TypeId×Array Value)} {a3:Option Addr} {L:aH} {k:Nat} {V' V2:aB} {M:aH} {W' W2:World} (h:yQ w R0 b bs a3 L k V' M W') {i:Ins} (hi:L.af[k]?=some i) (hn:i.aN=0\/L.day<=i.aN) (he:(iI M k).2=0)
 (F:dB w R0 ((b, 57,V2.cells (iI M k).1)::bs) V2 (iI M k).1 W2) (hs:KR b V'.af (k*7+6) W' W2):yQ w R0 b bs a3 L (k+1) V2 (iI M k).1 W2:=by
 have hkl:k<M.af.length:=by rw[h.nM.lens];exact (List.getElem?_eq_some_iff.1 hi).1
 refine⟨F,by rw[<-h.go,drop_at hi,wW (by rw[h.nM.day];exact hn) he],h.nM.trans (rC h.nM.good hkl he),fun j x hj hx=>?_⟩;obtain⟨g,e,hg,hc⟩:=h.row j x (by omega) hx;refine⟨g,e,hg,fun o u hu=>hs g _ u (hc o u hu) hg (fun _=>?_)⟩;have:=(List.getElem?_eq_some_iff.1 hu).1;rw[dU] at this;omega
end Go.Proofs.YtcepekniflaoaaaGreatDoor
