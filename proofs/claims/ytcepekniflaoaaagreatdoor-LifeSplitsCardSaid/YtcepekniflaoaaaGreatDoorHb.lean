/- Joined: AdmN, AdmC, AdmO, AdmPu. -/
import Derived.Test.YtcepekniflaoaaaGreatDoorGn
import Derived.Test.YtcepekniflaoaaaGreatDoorGe
import Derived.Laws.OwnMore
import Derived.Test.YtcepekniflaoaaaGreatDoorGk
import Derived.Test.YtcepekniflaoaaaGreatDoorGg
import Derived.Test.YtcepekniflaoaaaGreatDoorGa
import Derived.Test.YtcepekniflaoaaaGreatDoorGh
import Derived.Defers
import Derived.Recover
import Derived.Laws.Pointers
set_option linter.unusedVariables false
set_option linter.unusedSimpArgs false
namespace Go.Proofs.YtcepekniflaoaaaGreatDoor
open Go.RowKit Go.Bw Go.Maps Go.Shelf Go.Bw.Fall
theorem oL {K:Act->World->Prop} {Q:Exit->Act->World->Prop} {o:Oper} {a:Act} {W:World} {x y:Operand} {b:Nat} {old cs:Array Value} (hb:W.heap[b]?=some (.cells old 31 (0,0))) (h0:mO old) (hc:mO cs)
 (ho:o.op=.store 31 x y) (hx:a.eval x=.pointer (some ⟨b,0,none⟩)) (hy:a.eval y=.agg cs) (h:K (a.put o.dst undef) (W.setRow b cs)):yu Tryz.prog K Q [o] a W :=
 wp_store_row 31 x y ho b cs hx hy 31 old hb (by rw[fO,hc.size]) (by rw[h0.size,hc.size]) hc.one h
theorem Ak {P:Program} {ops:Array Oper} {C:World->Prop} {Q:Act->Prop} {a:Act} {o:Oper} {rest:List Oper} (hgd:o.guard=none) (t:TypeId) (ho:o.op=.build t #[]) (cs:Array Value) (hb:∀ W,(Instr.build t #[]).run P W=.ok (.agg cs) W)
 (h:wpQuiet P ops C Q rest (a.put o.dst (.agg cs))):wpQuiet P ops C Q (o::rest) a:=by
 refine wpQuiet_step (fun K hK=>?_);rw[if_pos (by simp[Region.wanted,hgd])];refine⟨.agg cs,fun w hw=>?_,hK _ h⟩;unfold Oper.quietAt execOp;simp[ho,hb];exact⟨rfl,rfl⟩
theorem oh {ops:Array Oper} {C:World->Prop} {Q:Act->Prop} {a:Act} {o:Oper} {rest:List Oper} {x:Operand} {b:Nat} {cs:Array Value} (hb:∀ W,C W->W.heap[b]?=some (.cells cs 31 (0,0))) (hc:mO cs)
 (hgd:o.guard=none) (ho:o.op=.load 31 x) (hx:a.eval x=.pointer (some ⟨b,0,none⟩)) (h:wpQuiet Tryz.prog ops C Q rest (a.put o.dst (.agg cs))):wpQuiet Tryz.prog ops C Q (o::rest) a:=by
 obtain⟨d,hu,hd⟩:=iO;exact iW hgd 31 x ho b hx 31 cs (0,0) d hb hu (by cases d <;> first|rfl|exact hd) (by rw[fO,hc.size]) h
structure vZ (w:World) (po pn pe:Nat) (cs:Array Value) (n e:Int):Prop where
 a:w.heap[po]?=some (.cells cs 31 (0,0))
 b:w.heap[pn]?=some (.cells #[.int .i64 n] 3 (0,0))
 c:w.heap[pe]?=some (.cells #[.int .i64 e] 35 (0,0))
theorem vZ.mod {w w':World} {po pn pe:Nat} {cs:Array Value} {n e:Int} (h:vZ w po pn pe cs n e) {S:Nat->Prop} (hm:Mod S w w') (h1:¬ S po) (h2:¬ S pn) (h3:¬ S pe):vZ w' po pn pe cs n e:=⟨hm.heap h.a h1,hm.heap h.b h2,hm.heap h.c h3⟩
theorem vZ.all {w:World} {po pn pe:Nat} {cs:Array Value} {n e:Int} (h:vZ w po pn pe cs n e) (h1:pn≠po) (h2:pe≠po) (h3:pe≠pn) (cs':Array Value) (n' e':Int) :
 vZ (((w.setRow po cs').setCell ⟨pn,0,none⟩ (.int .i64 n')).setCell ⟨pe,0,none⟩ (.int .i64 e')) po pn pe cs' n' e'/\Mod (fun k=>k=po\/k=pn\/k=pe) w (((w.setRow po cs').setCell ⟨pn,0,none⟩ (.int .i64 n')).setCell ⟨pe,0,none⟩ (.int .i64 e')):=by
 have M1:=(bJ (w:=w) po cs');have a1:=setRow_heap _ _ _ cs' _ _ h.a;have b1:=M1.heap h.b h1;have c1:=M1.heap h.c h2;have M2:=(Mod.refl (fun k=>k=pn) (w.setRow po cs')).setCell (p:=⟨pn,0,none⟩) (.int .i64 n') (fun _=>rfl);have a2:=M2.heap a1 (Ne.symm h1);have b2:=bC b1 0 (.int .i64 n');have c2:=M2.heap c1 h3;have M3:=(Mod.refl (fun k=>k=pe) ((w.setRow po cs').setCell ⟨pn,0,none⟩ (.int .i64 n'))).setCell (p:=⟨pe,0,none⟩) (.int .i64 e') (fun _=>rfl);refine⟨⟨M3.heap a2 (Ne.symm h2),M3.heap (by simpa using b2) (Ne.symm h3),by simpa using bC c2 0 (.int .i64 e')⟩,?_⟩;exact ((M1.mono (T:=fun k=>k=po\/k=pn\/k=pe) (fun _ _ h=>Or.inl h)).trans (M2.mono (T:=fun k=>k=po\/k=pn\/k=pe) (fun _ _ h=>Or.inr (Or.inl h))) (fun _ _ h=>h)).trans M3 (fun _ _ h=>Or.inr (Or.inr h))
theorem lH {fn:Func} {p q r:Tmp} (h:fn.results=#[.cell p 31,.cell q 3,.cell r 35]) (tmps:Array Value) (W:World) {po pn pe:Nat} {cs:Array Value} {n e:Int} (hr:vZ W po pn pe cs n e) (hc:mO cs)
 (hp:tmps.getD p undef=.pointer (some ⟨po,0,none⟩)) (hq:tmps.getD q undef=.pointer (some ⟨pn,0,none⟩)) (hr':tmps.getD r undef=.pointer (some ⟨pe,0,none⟩)) :
 (results fn tmps).run Tryz.prog W=.ok (.tuple #[.agg cs,.int .i64 n,.int .i64 e]) W:=by
 obtain⟨d,hu,hd⟩:=iO;have hp':tmps[p]?.getD undef=.pointer (some ⟨po,0,none⟩):=by simpa using hp
 have hq':tmps[q]?.getD undef=.pointer (some ⟨pn,0,none⟩):=by simpa using hq
 have hr2:tmps[r]?.getD undef=.pointer (some ⟨pe,0,none⟩):=by simpa using hr'
 have j0:=cell_of_heap hr.b 0;have j1:=cell_of_heap hr.c 0;have L:=run_loadVar_row (P:=Tryz.prog) W po 31 31 cs (0,0) d hr.a hu (by cases d <;> first|rfl|exact hd) (by rw[fO,hc.size]);have L2:(loadVar 3 ⟨pn,0,none⟩).run Tryz.prog W=.ok (.int .i64 n) W:=by simp[go_sem,j0]
 have L3:(loadVar 35 ⟨pe,0,none⟩).run Tryz.prog W=.ok (.int .i64 e) W:=by simp[go_sem,j1]
 simp[results,h,hp',hq',hr2,asAddr,L,L2,L3]
theorem bZ {fn:Func} {p q r:Tmp} (h:fn.results=#[.cell p 31,.tmp q,.tmp r]) (tmps:Array Value) (W:World) {po:Nat} {cs:Array Value} (ha:W.heap[po]?=some (.cells cs 31 (0,0))) (hc:mO cs)
 (hp:tmps.getD p undef=.pointer (some ⟨po,0,none⟩)):(results fn tmps).run Tryz.prog W=.ok (.tuple #[.agg cs,tmps.getD q undef,tmps.getD r undef]) W:=by
 obtain⟨d,hu,hd⟩:=iO;have hp':tmps[p]?.getD undef=.pointer (some ⟨po,0,none⟩):=by simpa using hp
 have L:=run_loadVar_row (P:=Tryz.prog) W po 31 31 cs (0,0) d ha hu (by cases d <;> first|rfl|exact hd) (by rw[fO,hc.size]);simp[results,h,hp',asAddr,L]
theorem At.subset {w W:World} {bs cs:List (Nat×TypeId×Array Value)} (h:At w W bs) (hs:∀ x∈cs,x∈bs) (nd:(cs.map (·.1)).Nodup):At w W cs:=⟨h.low,fun x hx=>h.has x (hs x hx),fun x hx=>h.new x (hs x hx),nd⟩
theorem DY {W:World} {b:Nat} {T:TypeId} {cs:Array Value} (h:W.heap[b]?=some (.cells cs T (0,0))):W.setRow b cs=W:=by
 have hh:(W.setRow b cs).heap=W.heap:=by
  apply Array.ext_getElem?
  intro i;by_cases hi:i=b
  ·subst hi;rw[setRow_heap _ _ _ cs _ _ h,h]
  rcases Nat.lt_or_ge i W.heap.size with hl|hl
  ·exact (bJ (w:=W) b cs).block i hl hi
  have e1:(W.setRow b cs).heap.size=W.heap.size:=by simp[World.setRow]
  rw[Array.getElem?_eq_none (by rw[e1];exact hl),Array.getElem?_eq_none hl]
 have:W.setRow b cs={ W with heap:=(W.setRow b cs).heap }:=rfl;rw[this,hh]
def QU (w W1:World) (bs:List (Nat×TypeId×Array Value)) (a:aH×Int×Int) (e:Ending) (w':World):Prop :=
 (∃ U:aB,e=.returned (.tuple #[U.val a.1,.int .i64 a.2.1,.int .i64 a.2.2])/\bF w' W1.heap.size U a.1)/\At w w' bs
theorem _root_.Go.Bw.dB.drew {w W:World} {R0:Nat} {bs:List (Nat×TypeId×Array Value)} {V:aB} {l:aH} (h:dB w R0 bs V l W):dB w R0 bs V l W.drew:=h.go ((Mod.refl (fun _=>False) W).drew).aU
end Go.Proofs.YtcepekniflaoaaaGreatDoor
namespace Go.Bw
open Go.RowKit
theorem Oc {V V':aB} {q:Nat} {v:Value} (h:V.rows.Pairwise gW) (hr:V'.rows=V.rows.set q v) (hv:∀ (m:Nat) y,m≠q->V.rows[m]?=some y->gW y v):V'.rows.Pairwise gW:=by
 rw[hr,List.pairwise_iff_getElem];intro i j hi hj hij;rw[List.length_set] at hi hj;rw[List.getElem_set,List.getElem_set];have key:∀ m (hm:m<V.rows.length),m≠q->gW V.rows[m] v:=fun m hm hne=>hv m _ hne (List.getElem?_eq_getElem hm)
 by_cases e1:q=i
 ·rw[if_pos e1,if_neg (by omega)];exact (key j hj (by omega)).symm
 by_cases e2:q=j
 ·rw[if_neg e1,if_pos e2];exact key i hi (by omega)
 rw[if_neg e1,if_neg e2];exact List.pairwise_iff_getElem.1 h i j hi hj hij
theorem dB.base {w W:World} {R0 R1:Nat} {bs:List (Nat×TypeId×Array Value)} {V:aB} {l:aH} (h:dB w R0 bs V l W) (hR:R1<=R0) (hw:w.heap.size<=R1):dB w R1 bs V l W :=
 ⟨h.at_,h.own.base hR,h.uq,Nat.le_trans hR h.rb,hw⟩
end Go.Bw
