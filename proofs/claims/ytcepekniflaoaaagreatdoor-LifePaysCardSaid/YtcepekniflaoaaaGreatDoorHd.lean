/- Joined: AdmK, LifD. -/
import Derived.Test.YtcepekniflaoaaaGreatDoorHb
import Derived.Test.YtcepekniflaoaaaGreatDoorGe
import Derived.Test.YtcepekniflaoaaaGreatDoorLifC
import Derived.Test.YtcepekniflaoaaaGreatDoorHp
set_option linter.unusedVariables false
set_option linter.unusedSimpArgs false
namespace Go.Proofs.YtcepekniflaoaaaGreatDoor
open Go.RowKit Go.Bw Go.Maps Go.Shelf Go.Bw.Fall
end Go.Proofs.YtcepekniflaoaaaGreatDoor
namespace Go.Bw
open Go.RowKit
theorem dS.OG {w W W':World} {R0 b:Nat} {bs:List (Nat×TypeId×Array Value)} {V:aC} {l L:aI} {T:TypeId} (h:dS w R0 ((b,T,V.cells L)::bs) V l W) (hm:Mod (fun _=>False) W W') {v:Value} {xs:List Pos} (ho:aY W' R0 50 3 Pos.cells v xs) (hv:∀ k,v.ownBlock=some k->W.heap.size<=k) :
 dS w R0 ((b,T,({ V with aA:=v }:aC).cells L)::bs) { V with aA:=v } { l with aA:=xs } (W'.setCell ⟨b,5,none⟩ v):=by
 have hm':=hm.mono (T:=fun k=>V.aA.ownBlock=some k) (fun _ _ h=>h.elim);have hb:∀ k,v.ownBlock=some k->V.aA.ownBlock=some k\/W.heap.size<=k:=fun k hk=>Or.inr (hv k hk)
 have f:=h.MZ (h.own.MJ hm' ho hb) hm' (q:=4) rfl rfl hb;exact f.cell 0 rfl 5 v
theorem dS.OE {w W W':World} {R0 b:Nat} {bs:List (Nat×TypeId×Array Value)} {V:aC} {l L:aI} {T:TypeId} (h:dS w R0 ((b,T,V.cells L)::bs) V l W) (hm:Mod (fun _=>False) W W') {v:Value} {xs:List Pos} (ho:aY W' R0 72 3 Pos.cells v xs) (hv:∀ k,v.ownBlock=some k->W.heap.size<=k) :
 dS w R0 ((b,T,({ V with aV:=v }:aC).cells L)::bs) { V with aV:=v } { l with aV:=xs } (W'.setCell ⟨b,8,none⟩ v):=by
 have hm':=hm.mono (T:=fun k=>V.aV.ownBlock=some k) (fun _ _ h=>h.elim);have hb:∀ k,v.ownBlock=some k->V.aV.ownBlock=some k\/W.heap.size<=k:=fun k hk=>Or.inr (hv k hk)
 have f:=h.MZ (h.own.MH hm' ho hb) hm' (q:=7) rfl rfl hb;exact f.cell 0 rfl 8 v
def J9 (b:Nat) (v:Value) (c:Nat) (W W':World):Prop:=∀ g o u,W.cell? ⟨g,o,none⟩=some u->g≠b->(v.ownBlock=some g->o≠c)->W'.cell? ⟨g,o,none⟩=some u
theorem dS.drop1 {w W:World} {R0:Nat} {x y:Nat×TypeId×Array Value} {bs:List (Nat×TypeId×Array Value)} {V:aC} {l:aI} (h:dS w R0 (x::y::bs) V l W):dS w R0 (x::bs) V l W :=
 ⟨h.at_.sub ((List.sublist_cons_self _ _).cons_cons _),h.own,fun z hz=>h.yS z (by rcases List.mem_cons.1 hz with rfl|hz <;> simp[*]),h.rb,h.lo⟩
theorem dS.add1 {w W:World} {R0:Nat} {x:Nat×TypeId×Array Value} {bs:List (Nat×TypeId×Array Value)} {V:aC} {l:aI} (h:dS w R0 (x::bs) V l W) (T:TypeId) (cs:Array Value):dS w R0 (x::(W.heap.size,T,cs)::bs) V l (W.alloc (.cells cs T)) :=
 (h.box T cs).perm (List.Perm.cons _ List.perm_append_comm)
end Go.Bw
namespace Go.Proofs.YtcepekniflaoaaaGreatDoor
open Go.RowKit Go.Bw Go.Maps Go.Shelf Go.Bw.Fall
structure PayAt (w W:World) (R0 b:Nat) (bs:List (Nat×TypeId×Array Value)) (V:aC) (L:aI) (f:Pos->Option (Int×Int)) (c:Pos->Int) (frm:Int) (k:Nat) (V':aC) (M:aI) (W':World):Prop where
 iQ:dS w R0 ((b, 57,V'.cells M)::bs) V' M W'
 go:dD f c frm (L.aA.drop k) M=dD f c frm L.aA L
 dn:dV L M
 mod:Mod (fun k=>k=b) W W'
 ins:V'.af=V.af\/∀ k,V'.af.ownBlock=some k->W.heap.size<=k
theorem PayAt.next {w W:World} {R0 b:Nat} {bs:List (Nat×TypeId×Array Value)} {V:aC} {L:aI} {f:Pos->Option (Int×Int)} {c:Pos->Int} {frm:Int} {k:Nat} {V' V2:aC} {M:aI} {W' W2 W3:World} (h:PayAt w W R0 b bs V L f c frm k V' M W') {p:Pos} {x:Int×Int} (hp:L.aA[k]?=some p) (hf:f p=some x) (hx:x.2=0) (hr:(fV M (c p) x.1 frm p.ak).2=0)
 (hfr:0<=frm/\frm<L.ai.length) (ha:0<=p.ak/\p.ak<L.ai.length) (F:dS w R0 ((b, 57,V2.cells (fV M (c p) x.1 frm p.ak).1)::bs) V2 (fV M (c p) x.1 frm p.ak).1 W3) (o:bD W3 W2.heap.size V2 (fV M (c p) x.1 frm p.ak).1) (hb:Below W'.heap.size W' W2) (hm:Mod (fun k=>k=b) W2 W3) :
 PayAt w W R0 b bs V L f c frm (k+1) V2 (fV M (c p) x.1 frm p.ak).1 W3:=by
 have M2:=(h.mod.trans (Mod.of_below hb) (fun _ _ h=>h.elim));refine⟨F,?_,h.dn.trans (mM ⟨hfr.1,by rw[h.dn.len];exact hfr.2⟩ ⟨ha.1,by rw[h.dn.len];exact ha.2⟩ hr),M2.trans hm (fun _ _ h=>h),Or.inr (fun j hj=>?_)⟩
 ·rw[<-h.go,drop_at hp,qZ hf hx hr]
 have:=(o.OY V2.af (by simp[aC.rows]) j hj).1;have:=M2.size;omega
theorem PayAt.skip {w W:World} {R0 b:Nat} {bs:List (Nat×TypeId×Array Value)} {V:aC} {L:aI} {f:Pos->Option (Int×Int)} {c:Pos->Int} {frm:Int} {k:Nat} {V':aC} {M:aI} {W' W2:World} (h:PayAt w W R0 b bs V L f c frm k V' M W') {p:Pos} (hp:L.aA[k]?=some p) (hf:f p=none) (hb:Below W'.heap.size W' W2):PayAt w W R0 b bs V L f c frm (k+1) V' M W2 :=
 ⟨h.iQ.go hb,by rw[<-h.go,drop_at hp,rq hf],h.dn,h.mod.trans (Mod.of_below hb) (fun _ _ h=>h.elim),h.ins⟩
theorem PayAt.OU {w W:World} {R0 b:Nat} {bs:List (Nat×TypeId×Array Value)} {V:aC} {L:aI} {f:Pos->Option (Int×Int)} {c:Pos->Int} {frm:Int} {k:Nat} {V':aC} {M:aI} {W' W2:World} (h:PayAt w W R0 b bs V L f c frm k V' M W') (hb:Below W'.heap.size W' W2):PayAt w W R0 b bs V L f c frm k V' M W2 :=
 ⟨h.iQ.go hb,h.go,h.dn,h.mod.trans (Mod.of_below hb) (fun _ _ h=>h.elim),h.ins⟩
theorem PayAt.less {w W:World} {R0 b:Nat} {x:Nat×TypeId×Array Value} {bs:List (Nat×TypeId×Array Value)} {V:aC} {L:aI} {f:Pos->Option (Int×Int)} {c:Pos->Int} {frm:Int} {k:Nat} {V':aC} {M:aI} {W':World} (h:PayAt w W R0 b (x::bs) V L f c frm k V' M W'):PayAt w W R0 b bs V L f c frm k V' M W' :=
 ⟨h.iQ.drop1,h.go,h.dn,h.mod,h.ins⟩
theorem PayAt.ended {w W:World} {R0 b:Nat} {bs:List (Nat×TypeId×Array Value)} {V:aC} {L:aI} {f:Pos->Option (Int×Int)} {c:Pos->Int} {frm:Int} {k:Nat} {V':aC} {M:aI} {W':World} (h:PayAt w W R0 b bs V L f c frm k V' M W') (hk:L.aA.length<=k):dD f c frm L.aA L=(M,0):=by
 rw[<-h.go,pJ hk];rfl
theorem PayAt.row {w W:World} {R0 b:Nat} {bs cs:List (Nat×TypeId×Array Value)} {V:aC} {L:aI} {f:Pos->Option (Int×Int)} {c:Pos->Int} {frm:Int} {k:Nat} {V':aC} {M:aI} {W':World} (h:PayAt w W R0 b bs V L f c frm k V' M W') {T:TypeId} {C:Array Value} (F:dS w R0 ((b,T,C)::cs) V L W):RowOf W' 3 Pos.cells V.aA L.aA :=
 F.own.led.aA.kept h.mod (fun j hj e=>by subst e;exact F.yS (j,T,C) (by simp) V.aA (by simp[aC.rows]) hj)
theorem _root_.Go.Bw.dV.dI {L M:aI} (h:dV L M) (n:Int):M.dI n=L.dI n:=by unfold aI.dI aI.und aI.ins;rw[h.ah,h.af]
theorem _root_.Go.Bw.dV.ins_eq {L M:aI} (h:dV L M) (n:Int):M.ins n=L.ins n:=by unfold aI.ins;rw[h.af]
theorem wM {x:Int} (h0:-1000000000000000<=x) (h1:x<=1000000000000000):aJ x=true:=aF.2 (by omega)
theorem PayAt.more {w W:World} {R0 b:Nat} {bs:List (Nat×TypeId×Array Value)} {V:aC} {L:aI} {f:Pos->Option (Int×Int)} {c:Pos->Int} {frm:Int} {k:Nat} {V':aC} {M:aI} {W':World} (h:PayAt w W R0 b bs V L f c frm k V' M W') (T:TypeId) (cells:Array Value) :
 PayAt w W R0 b ((W'.heap.size,T,cells)::bs) V L f c frm k V' M (W'.alloc (.cells cells T)) :=
 ⟨h.iQ.add1 T cells,h.go,h.dn,h.mod.trans (Mod.of_below ((Below.refl _ _).alloc (Nat.le_refl _) _)) (fun _ _ h=>h.elim),h.ins⟩
end Go.Proofs.YtcepekniflaoaaaGreatDoor
