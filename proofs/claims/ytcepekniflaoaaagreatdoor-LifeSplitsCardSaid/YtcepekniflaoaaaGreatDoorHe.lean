/- Joined: AdmE, RLifL. -/
import Derived.Test.YtcepekniflaoaaaGreatDoorHc
import Derived.Test.YtcepekniflaoaaaGreatDoorGi
import Derived.Test.YtcepekniflaoaaaGreatDoorHv
import Derived.Test.YtcepekniflaoaaaGreatDoorLifL
set_option linter.unusedVariables false
set_option linter.unusedSimpArgs false
namespace Go.Proofs.YtcepekniflaoaaaGreatDoor
open Go.RowKit Go.Bw Go.Maps Go.Shelf Go.Bw.Fall
theorem _root_.Go.Bw.dB.Dn {w W W':World} {R0 b:Nat} {bs:List (Nat×TypeId×Array Value)} {V:aB} {l L:aH} {T:TypeId} (h:dB w R0 ((b,T,V.cells L)::bs) V l W) (hm:Mod (fun k=>V.au.ownBlock=some k) W W') {v:Value} {xs:List Pos} (ho:aV W' R0 50 3 Pos.cells v xs) (hb:∀ k,v.ownBlock=some k->V.au.ownBlock=some k\/W.heap.size<=k) :
 dB w R0 ((b,T,({ V with au:=v }:aB).cells L)::bs) { V with au:=v } { l with au:=xs } (W'.setCell ⟨b,5,none⟩ v):=by
 have f:=h.xP (h.own.xO hm ho hb) hm (q:=4) rfl rfl hb;exact f.cell 0 rfl 5 v
structure I7 (w:World) (R1 b9:Nat) (bs:List (Nat×TypeId×Array Value)) (L:aH) (k:Nat) (V':aB) (M:aH) (W':World):Prop where
 jl:dB w R1 ((b9, 31,V'.cells M)::bs) V' M W'
 go:pF k (L.af.drop k) M=pF 0 L.af L
 nM:lS L M
 row:∀ j:Nat,k<=j->M.af[j]?=L.af[j]?
theorem I7.skip {w:World} {R1 b9:Nat} {bs:List (Nat×TypeId×Array Value)} {L:aH} {k:Nat} {V':aB} {M:aH} {W':World} (h:I7 w R1 b9 bs L k V' M W') {i:Ins} (hi:L.af[k]?=some i) (hn:¬ (i.aN=0\/L.day<=i.aN)):I7 w R1 b9 bs L (k+1) V' M W' :=
 ⟨h.jl,by rw[<-h.go,drop_at hi,wV (by rw[h.nM.day];exact hn)],h.nM,fun j hj=>h.row j (by omega)⟩
theorem I7.next {w:World} {R1 b9:Nat} {bs cs:List (Nat×TypeId×Array Value)} {L:aH} {k:Nat} {V' V2:aB} {M N:aH} {W' W2:World} (h:I7 w R1 b9 bs L k V' M W') {i x:Ins} (hi:L.af[k]?=some i) (hn:i.aN=0\/L.day<=i.aN) (he:iI M k=(N,0)) (hN:N.af=M.af.set k x)
 (F:dB w R1 ((b9, 31,V2.cells N)::cs) V2 N W2):I7 w R1 b9 cs L (k+1) V2 N W2:=by
 have hkl:k<M.af.length:=by rw[h.nM.lens];exact (List.getElem?_eq_some_iff.1 hi).1
 have e1:(iI M k).1=N:=by rw[he]
 have e2:(iI M k).2=0:=by rw[he]
 have D:=rC h.nM.good hkl e2;rw[e1] at D;refine⟨F,by rw[<-h.go,drop_at hi,wW (by rw[h.nM.day];exact hn) e2,e1],h.nM.trans D,fun j hj=>?_⟩;rw[hN,List.getElem?_set,if_neg (by omega)];exact h.row j (by omega)
theorem keep_next {α:Type} {l:List α} {k:Nat} {x:α} (h:l[k]?=some x) (f:α->Bool):(l.take (k+1)).filter f=(l.take k).filter f++if f x=true then [x] else []:=by
 rw[List.take_add_one,h,List.filter_append]
 simp only[Option.toList,List.filter_cons,List.filter_nil]
end Go.Proofs.YtcepekniflaoaaaGreatDoor
