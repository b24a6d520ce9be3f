/- Joined: AdmK, LifD. -/
import Derived.Test.YtcepekniflaoaaaGreatDoorHb
import Derived.Test.YtcepekniflaoaaaGreatDoorGe
import Derived.Test.YtcepekniflaoaaaGreatDoorLifC
import Derived.Test.YtcepekniflaoaaaGreatDoorHp
set_option linter.unusedVariables false
set_option linter.unusedSimpArgs false
namespace Go.Proofs.YtcepekniflaoaaaGreatDoor
open Go.RowKit Go.Bw Go.Maps Go.Shelf Go.Bw.Fall
end Go.Proofs.YtcepekniflaoaaaGreatDoor
namespace Go.Bw
open Go.RowKit
theorem dB.Po {w W W':World} {R0 b:Nat} {bs:List (Nat×TypeId×Array Value)} {V:aB} {l L:aH} {T:TypeId} (h:dB w R0 ((b,T,V.cells L)::bs) V l W) (hm:Mod (fun _=>False) W W') {v:Value} {xs:List Pos} (ho:aV W' R0 50 3 Pos.cells v xs) (hv:∀ k,v.ownBlock=some k->W.heap.size<=k) :
 dB w R0 ((b,T,({ V with au:=v }:aB).cells L)::bs) { V with au:=v } { l with au:=xs } (W'.setCell ⟨b,5,none⟩ v):=by
 have hm':=hm.mono (T:=fun k=>V.au.ownBlock=some k) (fun _ _ h=>h.elim);have hb:∀ k,v.ownBlock=some k->V.au.ownBlock=some k\/W.heap.size<=k:=fun k hk=>Or.inr (hv k hk)
 have f:=h.xP (h.own.xO hm' ho hb) hm' (q:=4) rfl rfl hb;exact f.cell 0 rfl 5 v
theorem dB.Pn {w W W':World} {R0 b:Nat} {bs:List (Nat×TypeId×Array Value)} {V:aB} {l L:aH} {T:TypeId} (h:dB w R0 ((b,T,V.cells L)::bs) V l W) (hm:Mod (fun _=>False) W W') {v:Value} {xs:List Pos} (ho:aV W' R0 72 3 Pos.cells v xs) (hv:∀ k,v.ownBlock=some k->W.heap.size<=k) :
 dB w R0 ((b,T,({ V with aJ:=v }:aB).cells L)::bs) { V with aJ:=v } { l with aJ:=xs } (W'.setCell ⟨b,8,none⟩ v):=by
 have hm':=hm.mono (T:=fun k=>V.aJ.ownBlock=some k) (fun _ _ h=>h.elim);have hb:∀ k,v.ownBlock=some k->V.aJ.ownBlock=some k\/W.heap.size<=k:=fun k hk=>Or.inr (hv k hk)
 have f:=h.xP (h.own.xK hm' ho hb) hm' (q:=7) rfl rfl hb;exact f.cell 0 rfl 8 v
def KR (b:Nat) (v:Value) (c:Nat) (W W':World):Prop:=∀ g o u,W.cell? ⟨g,o,none⟩=some u->g≠b->(v.ownBlock=some g->o≠c)->W'.cell? ⟨g,o,none⟩=some u
theorem dB.drop1 {w W:World} {R0:Nat} {x y:Nat×TypeId×Array Value} {bs:List (Nat×TypeId×Array Value)} {V:aB} {l:aH} (h:dB w R0 (x::y::bs) V l W):dB w R0 (x::bs) V l W :=
 ⟨h.at_.sub ((List.sublist_cons_self _ _).cons_cons _),h.own,fun z hz=>h.uq z (by rcases List.mem_cons.1 hz with rfl|hz <;> simp[*]),h.rb,h.lo⟩
theorem dB.add1 {w W:World} {R0:Nat} {x:Nat×TypeId×Array Value} {bs:List (Nat×TypeId×Array Value)} {V:aB} {l:aH} (h:dB w R0 (x::bs) V l W) (T:TypeId) (cs:Array Value):dB w R0 (x::(W.heap.size,T,cs)::bs) V l (W.alloc (.cells cs T)) :=
 (h.box T cs).perm (List.Perm.cons _ List.perm_append_comm)
end Go.Bw
namespace Go.Proofs.YtcepekniflaoaaaGreatDoor
open Go.RowKit Go.Bw Go.Maps Go.Shelf Go.Bw.Fall
structure PayAt (w W:World) (R0 b:Nat) (bs:List (Nat×TypeId×Array Value)) (V:aB) (L:aH) (f:Pos->Option (Int×Int)) (c:Pos->Int) (frm:Int) (k:Nat) (V':aB) (M:aH) (W':World):Prop where
 jl:dB w R0 ((b, 57,V'.cells M)::bs) V' M W'
 go:dD f c frm (L.au.drop k) M=dD f c frm L.au L
 dI:dW L M
 mod:Mod (fun k=>k=b) W W'
 ins:V'.af=V.af\/∀ k,V'.af.ownBlock=some k->W.heap.size<=k
theorem PayAt.next {w W:World} {R0 b:Nat} {bs:List (Nat×TypeId×Array Value)} {V:aB} {L:aH} {f:Pos->Option (Int×Int)} {c:Pos->Int} {frm:Int} {k:Nat} {V' V2:aB} {M:aH} {W' W2 W3:World} (h:PayAt w W R0 b bs V L f c frm k V' M W') {p:Pos} {x:Int×Int} (hp:L.au[k]?=some p) (hf:f p=some x) (hx:x.2=0) (hr:(fP M (c p) x.1 frm p.ak).2=0)
 (hfr:0<=frm/\frm<L.ai.length) (ha:0<=p.ak/\p.ak<L.ai.length) (F:dB w R0 ((b, 57,V2.cells (fP M (c p) x.1 frm p.ak).1)::bs) V2 (fP M (c p) x.1 frm p.ak).1 W3) (o:bF W3 W2.heap.size V2 (fP M (c p) x.1 frm p.ak).1) (hb:Below W'.heap.size W' W2) (hm:Mod (fun k=>k=b) W2 W3) :
 PayAt w W R0 b bs V L f c frm (k+1) V2 (fP M (c p) x.1 frm p.ak).1 W3:=by
 have M2:=(h.mod.trans (Mod.of_below hb) (fun _ _ h=>h.elim));refine⟨F,?_,h.dI.trans (kW ⟨hfr.1,by rw[h.dI.len];exact hfr.2⟩ ⟨ha.1,by rw[h.dI.len];exact ha.2⟩ hr),M2.trans hm (fun _ _ h=>h),Or.inr (fun j hj=>?_)⟩
 ·rw[<-h.go,drop_at hp,oP hf hx hr]
 have:=(o.PU V2.af (by simp[aB.rows]) j hj).1;have:=M2.size;omega
theorem PayAt.skip {w W:World} {R0 b:Nat} {bs:List (Nat×TypeId×Array Value)} {V:aB} {L:aH} {f:Pos->Option (Int×Int)} {c:Pos->Int} {frm:Int} {k:Nat} {V':aB} {M:aH} {W' W2:World} (h:PayAt w W R0 b bs V L f c frm k V' M W') {p:Pos} (hp:L.au[k]?=some p) (hf:f p=none) (hb:Below W'.heap.size W' W2):PayAt w W R0 b bs V L f c frm (k+1) V' M W2 :=
 ⟨h.jl.go hb,by rw[<-h.go,drop_at hp,oQ hf],h.dI,h.mod.trans (Mod.of_below hb) (fun _ _ h=>h.elim),h.ins⟩
theorem PayAt.QO {w W:World} {R0 b:Nat} {bs:List (Nat×TypeId×Array Value)} {V:aB} {L:aH} {f:Pos->Option (Int×Int)} {c:Pos->Int} {frm:Int} {k:Nat} {V':aB} {M:aH} {W' W2:World} (h:PayAt w W R0 b bs V L f c frm k V' M W') (hb:Below W'.heap.size W' W2):PayAt w W R0 b bs V L f c frm k V' M W2 :=
 ⟨h.jl.go hb,h.go,h.dI,h.mod.trans (Mod.of_below hb) (fun _ _ h=>h.elim),h.ins⟩
theorem PayAt.less {w W:World} {R0 b:Nat} {x:Nat×TypeId×Array Value} {bs:List (Nat×TypeId×Array Value)} {V:aB} {L:aH} {f:Pos->Option (Int×Int)} {c:Pos->Int} {frm:Int} {k:Nat} {V':aB} {M:aH} {W':World} (h:PayAt w W R0 b (x::bs) V L f c frm k V' M W'):PayAt w W R0 b bs V L f c frm k V' M W' :=
 ⟨h.jl.drop1,h.go,h.dI,h.mod,h.ins⟩
theorem PayAt.ended {w W:World} {R0 b:Nat} {bs:List (Nat×TypeId×Array Value)} {V:aB} {L:aH} {f:Pos->Option (Int×Int)} {c:Pos->Int} {frm:Int} {k:Nat} {V':aB} {M:aH} {W':World} (h:PayAt w W R0 b bs V L f c frm k V' M W') (hk:L.au.length<=k):dD f c frm L.au L=(M,0):=by
 rw[<-h.go,nN hk];rfl
theorem PayAt.row {w W:World} {R0 b:Nat} {bs cs:List (Nat×TypeId×Array Value)} {V:aB} {L:aH} {f:Pos->Option (Int×Int)} {c:Pos->Int} {frm:Int} {k:Nat} {V':aB} {M:aH} {W':World} (h:PayAt w W R0 b bs V L f c frm k V' M W') {T:TypeId} {C:Array Value} (F:dB w R0 ((b,T,C)::cs) V L W):RowOf W' 3 Pos.cells V.au L.au :=
 F.own.led.au.kept h.mod (fun j hj e=>by subst e;exact F.uq (j,T,C) (by simp) V.au (by simp[aB.rows]) hj)
theorem _root_.Go.Bw.dW.dG {L M:aH} (h:dW L M) (n:Int):M.dG n=L.dG n:=by unfold aH.dG aH.und aH.ins;rw[h.ah,h.af]
theorem _root_.Go.Bw.dW.ins_eq {L M:aH} (h:dW L M) (n:Int):M.ins n=L.ins n:=by unfold aH.ins;rw[h.af]
theorem wX {x:Int} (h0:-1000000000000000<=x) (h1:x<=1000000000000000):aO x=true:=aF.2 (by omega)
theorem PayAt.more {w W:World} {R0 b:Nat} {bs:List (Nat×TypeId×Array Value)} {V:aB} {L:aH} {f:Pos->Option (Int×Int)} {c:Pos->Int} {frm:Int} {k:Nat} {V':aB} {M:aH} {W':World} (h:PayAt w W R0 b bs V L f c frm k V' M W') (T:TypeId) (cells:Array Value) :
 PayAt w W R0 b ((W'.heap.size,T,cells)::bs) V L f c frm k V' M (W'.alloc (.cells cells T)) :=
 ⟨h.jl.add1 T cells,h.go,h.dI,h.mod.trans (Mod.of_below ((Below.refl _ _).alloc (Nat.le_refl _) _)) (fun _ _ h=>h.elim),h.ins⟩
end Go.Proofs.YtcepekniflaoaaaGreatDoor
