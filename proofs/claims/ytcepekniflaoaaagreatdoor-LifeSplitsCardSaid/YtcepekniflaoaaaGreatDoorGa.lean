/- Joined: Mem, Append, Lex, QTail, LexC, Open, MemB, LexP, LexT, MapU, LexU. -/
import Derived.WalkKit
import Derived.WalkSpells
import Derived.Deep.QuietTactic
import Derived.BigQuiet
import Derived.Lib.Hide
import Derived.OrdersHeld
import Derived.Deep.Quiet
import Derived.StillTail
import Derived.OpenShut
import Derived.SizedLaws
import Derived.Deep.Slices
import Derived.ChangeMaps
import Derived.Maps.OwnSet
import Derived.WideKeyEntry
set_option linter.unusedVariables false
set_option linter.unusedSimpArgs false
namespace Go.Bw
open Go.RowKit
theorem zq {p:Prop} (h:p):RowKit.Hid p:=h
theorem _root_.Go.RowKit.Hid.o {p:Prop} (h:RowKit.Hid p):p:=h
theorem Zn {α:Sort _} (x:α):∃ n,n=x:=⟨_,rfl⟩
theorem Zb {w:World} {o:Obj}:Below w.heap.size w (w.alloc o):=(Below.refl _ _).alloc (Nat.le_refl _) _
theorem Zg {α:Type} {l:List α} {i:Nat} (h:i<l.length):l[i]?=some l[i]:=List.getElem?_eq_getElem h
theorem Zf {p:Prop} [Decidable p] (h:¬ p):decide p=false:=decide_eq_false h
structure Mod (S:Nat->Prop) (w w':World):Prop where
 os:w'.os=w.os
 tape:w'.tape=w.tape
 output:w'.output=w.output
 size:w.heap.size<=w'.heap.size
 block:∀ k,k<w.heap.size->¬ S k->w'.heap[k]?=w.heap[k]?
variable {S T:Nat->Prop} {w a b c w':World}
theorem Mod.refl (S:Nat->Prop) (w:World):Mod S w w:=⟨rfl,rfl,rfl,Nat.le_refl _,fun _ _ _=>rfl⟩
theorem Mod.trans (h:Mod S a b) (k:Mod T b c) (hT:∀ i,i<a.heap.size->T i->S i):Mod S a c :=
 ⟨k.os.trans h.os,k.tape.trans h.tape,k.output.trans h.output,Nat.le_trans h.size k.size,
  fun i hi hS=>(k.block i (Nat.lt_of_lt_of_le hi h.size) (fun hx=>hS (hT i hi hx))).trans (h.block i hi hS)⟩
theorem Mod.mono (h:Mod S w w') (hS:∀ i,i<w.heap.size->S i->T i):Mod T w w' :=
 ⟨h.os,h.tape,h.output,h.size,fun k hk hT=>h.block k hk (fun hs=>hT (hS k hk hs))⟩
theorem Mod.drew (h:Mod S a w):Mod S a w.drew:=⟨h.os,h.tape,h.output,h.size,h.block⟩
theorem Mod.drewN (h:Mod S a w) (n:Nat):Mod S a (w.drewN n):=⟨h.os,h.tape,h.output,h.size,h.block⟩
theorem Mod.alloc (h:Mod S a w) (o:Obj):Mod S a (w.alloc o) :=
 h.trans (T:=fun _=>False) ⟨rfl,rfl,rfl,by simp,fun k hk _=>Below.heap_alloc _ _ _ hk⟩ (fun _ _ h=>h.elim)
theorem Mod.setCell (h:Mod S a w) {p:Addr} (u:Value) (hp:p.block<a.heap.size->S p.block):Mod S a (w.setCell p u) :=
 h.trans (T:=fun k=>k=p.block) ⟨rfl,rfl,rfl,by simp[World.setCell],fun k _ hne=>Below.heap_setCell _ _ _ _ hne⟩ (fun i hi e=>by subst e;exact hp hi)
theorem Mod.below {B:Nat} (h:Mod S a w) (hb:Below B w w') (hB:∀ i,i<a.heap.size->B<=i->S i):Mod S a w' :=
 h.trans (T:=fun k=>B<=k) ⟨hb.os,hb.tape,hb.output,hb.size,fun k _ hne=>hb.block k (by omega)⟩ hB
theorem Mod.aU (h:Mod (fun _=>False) w w'):Below w.heap.size w w':=⟨h.os,h.tape,h.output,h.size,fun k hk=>h.block k hk (fun h=>h)⟩
theorem Mod.cell (h:Mod S w w') {p:Addr} {v:Value} (hc:w.cell? p=some v) (hp:¬ S p.block):w'.cell? p=some v :=
 (World.cell?_of_block (h.block p.block (World.block_lt_of_cell? w p hc) hp)).trans hc
theorem lt_of_heap {w:World} {b:Nat} {o:Obj} (h:w.heap[b]?=some o):b<w.heap.size:=by
 rcases Nat.lt_or_ge b w.heap.size with h'|h'
 ·exact h'
 rw[Array.getElem?_eq_none h'] at h;cases h
theorem Mod.heap (h:Mod S w w') {k:Nat} {o:Obj} (hc:w.heap[k]?=some o) (hp:¬ S k):w'.heap[k]?=some o :=
 (h.block k (lt_of_heap hc) hp).trans hc
theorem cell_of_heap {w:World} {b:Nat} {cs:Array Value} {t:TypeId} {fr:Nat×Nat} (h:w.heap[b]?=some (.cells cs t fr)) (o:Nat):w.cell? ⟨b,o,none⟩=cs[o]?:=by simp[World.cell?,h]
theorem aP {w:World} {b:Nat} {cs:Array Value} {t:TypeId} (h:w.heap[b]?=some (.cells cs t (0,0))) (o:Nat):w.frozen? ⟨b,o,none⟩=false:=by simp[World.frozen?,h]
theorem bC {w:World} {b:Nat} {cs:Array Value} {t:TypeId} {fr:Nat×Nat} (h:w.heap[b]?=some (.cells cs t fr)) (o:Nat) (u:Value) :
 (w.setCell ⟨b,o,none⟩ u).heap[b]?=some (.cells (cs.setIfInBounds o u) t fr):=by
 simp[World.setCell,Array.getElem?_modify,h]
theorem iL {w:World} {p:Addr} {u:Value} {k:Nat} (h:k≠p.block):(w.setCell p u).heap[k]?=w.heap[k]?:=Below.heap_setCell _ _ _ _ h
theorem jX {base:Nat} {e:TypeId} {size:Nat} {v:Value} {n:Nat} {xs:List Value} (h:w.ownsRow base e size v n xs)
 (hk:∀ k,v.ownBlock=some k->w'.heap[k]?=w.heap[k]?):w'.ownsRow base e size v n xs:=by
 obtain⟨h1,h2⟩:=h;refine⟨h1,?_⟩;rcases h2 with h2|⟨g,cap,cur,hv,hg,hh,r⟩
 ·exact Or.inl h2
 subst hv;exact Or.inr ⟨g,cap,cur,rfl,hg,by rw[hk g rfl];exact hh,r⟩
theorem ownsRow_base {base base':Nat} {e:TypeId} {size:Nat} {v:Value} {n:Nat} {xs:List Value} (h:w.ownsRow base e size v n xs)
 (hk:∀ k,v.ownBlock=some k->base'<=k):w.ownsRow base' e size v n xs:=by
 obtain⟨h1,h2⟩:=h;refine⟨h1,?_⟩;rcases h2 with h2|⟨g,cap,cur,hv,hg,hh,r⟩
 ·exact Or.inl h2
 subst hv;exact Or.inr ⟨g,cap,cur,rfl,hk g rfl,hh,r⟩
end Go.Bw
namespace Go.Bw
open Go.RowKit
def Reads (w:World) (size:Nat) (x:Value) (m:Nat) (news:List Value):Prop :=
 news.length=m*size/\((∃ c,x=.slice none 0 c/\m=0)\/∃ a c,x=.slice (some a) m c/\∀ j u,news[j]?=some u->w.cell? (a.add j)=some u)
section
variable {P:Program} {w:World}
theorem kL (t ty e:TypeId) (i:TypeInfo) (z:Value) (size bytes:Nat) (ht:P.underlying t=some (.slice e)) (hi:P.info? e=some i) (hz:i.zero=some z)
 (hsize:i.size=size) (hby:i.bytes=bytes) (hzs:z.cells.size=size) (hsz:0<size)
 (v:Value) (n:Nat) (xs:List Value) (hown:w.ownsRow 0 e size v n xs)
 (x:Value) (m:Nat) (news:List Value) (hx:Reads w size x m news) (h1:∀ u∈news,u.oneCell'=true)
 (h63:n+m<=maxLen) (hbytes:(n+m)*bytes<=140737488355328) :
 ∃ v' w',(Builtin.append_ #[t,t] ty #[v,x]).run P w=.ok v' w'/\w'.ownsRow 0 e size v' (n+m) (xs++news)/\Mod (fun k=>v.ownBlock=some k) w w' /\
  (∀ k,v'.ownBlock=some k->v.ownBlock=some k\/k=w.heap.size)/\(v'=.slice none 0 0↔v=.slice none 0 0/\m=0):=by
 subst hsize;subst hby
 obtain⟨hl,hx⟩:=hx;have hsmall:n+m<=9223372036854775807:=by simp only[maxLen] at h63;omega
 have hlen:(xs++news).length=(n+m)*i.size:=by rw[List.length_append,hown.1,hl,Nat.add_mul]
 rcases hx with ⟨c,rfl,rfl⟩|⟨a,c,rfl,hnews⟩
 ·-- nothing is appended
  have hn:news=[]:=List.eq_nil_of_length_eq_zero (by simpa using hl);subst hn;refine⟨v,w,?_,by simpa using hown,Mod.refl _ _,fun k hk=>Or.inl hk,by simp⟩;rcases hown.2 with ⟨rfl,rfl⟩|⟨g,cap,cur,rfl,hbg,hg,hnc,hcm,hcs,htake⟩
  ·simp[Builtin.append_,run_underlying ht,sizeOf,typeInfo,hi,Builtin.lenOf,Builtin.firstCells]
  simp[Builtin.append_,run_underlying ht,sizeOf,typeInfo,hi,Builtin.lenOf,Builtin.firstCells,hnc,storeCells]
 have grown:∀ (old:Nat),old<n+m ->
  (w.drew.alloc (.cells (xs.toArray++news.toArray++Builtin.zeroCells z.cells (grownCap w (n+m) old e - (n+m))) e)).ownsRow 0 e i.size
   (.slice (some ⟨w.heap.size,0,none⟩) (n+m) (grownCap w (n+m) old e)) (n+m) (xs++news) /\
  ∀ S,Mod S w (w.drew.alloc (.cells (xs.toArray++news.toArray++Builtin.zeroCells z.cells (grownCap w (n+m) old e - (n+m))) e)):=by
  intro old ho;have hge:=grownCap_ge w (n+m) old e;have hcm:grownCap w (n+m) old e<=maxLen:=grownCap_le_maxLen w (n+m) old e h63;refine⟨⟨hlen,.inr ⟨w.heap.size,_,_,rfl,Nat.zero_le _,heap_alloc_new w.drew _,hge,hcm,?_,?_⟩⟩,fun S=>((Mod.refl S w).drew).alloc _⟩
  ·simp only[Array.size_append,List.size_toArray,size_zeroCells,hzs,hown.1,hl,<-Nat.add_mul]
   congr 1
   omega
  simp only[Array.toList_append,List.append_assoc]
  rw[<-List.append_assoc,<-hlen];exact List.take_left
 rcases hown.2 with ⟨rfl,rfl⟩|⟨g,cap,cur,rfl,hbg,hg,hnc,hcm,hcs,htake⟩
 ·have hx:xs=[]:=List.eq_nil_of_length_eq_zero (by simpa using hown.1);subst hx;by_cases hm:m=0
  ·subst hm;have hn:news=[]:=List.eq_nil_of_length_eq_zero (by simpa using hl);subst hn;refine⟨.slice none 0 0,w,?_,World.ownsRow_nil w 0 e i.size,Mod.refl _ _,fun k hk=>Or.inl hk,by simp⟩;simp[Builtin.append_,run_underlying ht,sizeOf,typeInfo,hi,Builtin.lenOf,Builtin.firstCells,loadCells,loadCellsFrom]
  have hr:=run_append_nil (P:=P) w t ty e i z ht hi hz a m c news hl hnews (by omega) (by omega) (by have hb:=hbytes;simp only[Nat.zero_add] at hb;omega);have hgr:=grown 0 (by omega)
  simp only[Nat.zero_add,List.nil_append,Array.empty_append] at hgr ⊢
  exact⟨_,_,hr,hgr.1,hgr.2 _,fun k hk=>Or.inr (by simpa [Value.ownBlock] using hk.symm),by simp[hm]⟩
 by_cases hroom:n+m<=cap
 ·have hfit:n*i.size+news.length<=cur.size:=by rw[hl,hcs,<-Nat.add_mul];exact Nat.mul_le_mul_right _ hroom
  have hr:=run_append_room (P:=P) w t ty e i ht hi g n cap cur hg a m c news hl hnews h1 hroom hfit;refine⟨_,_,hr,⟨hlen,.inr ⟨g,cap,_,rfl,hbg,setRow_heap w g cur _ e _ hg,hroom,hcm,?_,?_⟩⟩,⟨rfl,rfl,rfl,by simp,fun k _ hk=>setRow_other w g k _ (fun e=>hk (by simp[Value.ownBlock,e]))⟩,fun k hk=>Or.inl (by simpa [Value.ownBlock] using hk),by simp⟩
  ·simp only[List.size_toArray,List.length_append,List.length_take,List.length_drop,Array.length_toList]
   omega
  rw[htake,<-hlen];exact List.take_left
 have holds:∀ j u,xs[j]?=some u->w.cell? ((⟨g,0,none⟩:Addr).add j)=some u:=hown.cells (g:=g) rfl;have hr:=run_append_grow (P:=P) w t ty e i z ht hi hz ⟨g,0,none⟩ n cap xs hown.1 holds a m c news hl hnews (by omega) (by omega) (growslice_fits (by omega) hbytes);have hgr:=grown cap (by omega);exact⟨_,_,hr,hgr.1,hgr.2 _,fun k hk=>Or.inr (by simpa [Value.ownBlock] using hk.symm),by simp⟩
theorem ru {base e size:Nat} {v:Value} {n:Nat} {xs:List Value} (h:w.ownsRow base e size v n xs):Reads w size v n xs:=by
 refine⟨h.1,?_⟩;rcases h.2 with ⟨rfl,rfl⟩|⟨g,cap,cur,rfl,r⟩
 ·exact Or.inl ⟨0,rfl,rfl⟩
 exact Or.inr ⟨_,_,rfl,h.cells (g:=g) rfl⟩
theorem iP {base e size:Nat} {v:Value} {n:Nat} {xs:List Value} (h:w.ownsRow base e size v n xs):∃ a c,v=.slice a n c/\n<=c:=by
 rcases h.2 with ⟨rfl,rfl⟩|⟨g,cap,cur,rfl,_,_,hc,_⟩
 ·exact⟨none,0,rfl,Nat.le_refl _⟩
 exact⟨_,_,rfl,hc⟩
theorem Reads.kept {S:Nat->Prop} {w':World} {size:Nat} {x:Value} {m:Nat} {news:List Value} (h:Reads w size x m news) (hm:Mod S w w') (hS:∀ k,x.ownBlock=some k->¬ S k):Reads w' size x m news:=by
 obtain⟨h1,h2⟩:=h;refine⟨h1,?_⟩;rcases h2 with h2|⟨a,c,rfl,h2⟩
 ·exact Or.inl h2
 exact Or.inr ⟨a,c,rfl,fun j u hu=>hm.cell (h2 j u hu) (by
  have:(a.add j).block=a.block:=by unfold Addr.add;split <;> rfl
  rw[this];exact hS _ rfl)⟩
theorem wp_append_run {o:Oper} {a:Act} {K:Act->World->Prop} {Q:Exit->Act->World->Prop} {w':World} {r v u:Value}
 (s x:Operand) (t:TypeId) (hop:o.op=Op.call { callee:=Callee.builtin Builtin.append,args:=#[s,x],argTypes:=#[t,t] })
 (hs:a.eval s=v) (hx:a.eval x=u) (hrun:(Builtin.append_ #[t,t] o.type #[v,u]).run P w=.ok r w') (hK:K (a.put o.dst r) w') :
 Oper.wp P o a w K Q:=by
 unfold Oper.wp;simp[execOp,hop,resolve,invoke,builtin,hs,hx,hrun,Result.andThen];exact hK
theorem wpList_append_run {ops:Array Oper} {o:Oper} {rest:List Oper} {a:Act} {Q:Exit->Act->World->Prop} {w':World} {r v u:Value}
 (hg:o.guard=none) (s x:Operand) (t:TypeId) (hop:o.op=Op.call { callee:=Callee.builtin Builtin.append,args:=#[s,x],argTypes:=#[t,t] })
 (hs:a.eval s=v) (hx:a.eval x=u) (hrun:(Builtin.append_ #[t,t] o.type #[v,u]).run P w=.ok r w') (hK:wpList P ops Q rest (a.put o.dst r) w') :
 wpList P ops Q (o::rest) a w:=by
 refine wpList_plain hg fun K' hK'=>?_
 unfold Oper.wp;simp[execOp,hop,resolve,invoke,builtin,hs,hx,hrun,Result.andThen];exact hK' _ _ hK
end
end Go.Bw
namespace Go.Bw
def Strict (Q:Exit->Act->World->Prop):Exit->Act->World->Prop
 | .panic _,_,_=>False
 | .outgrown,_,_=>False
 | e,a,w=>Q e a w
theorem Strict.imp {Q:Exit->Act->World->Prop} {e:Exit} {a:Act} {w:World} (h:Strict Q e a w):Q e a w:=by
 cases e <;> first|exact h|exact h.elim
def iY:Op->Bool
 | .move _|.assign _|.pick ..|.nilCheck _|.fieldAddr ..|.extract ..=>true
 | _=>false
def bV (P:Program) (s:Sem Next):Prop:=∀ w n w',s.run P w=.ok n w'->∃ v,n=.value v
theorem bV.bind {P:Program} {β:Type} {s:Sem β} {f:β->Sem Next} (h:∀ x,bV P (f x)):bV P (s >>= f):=by
 intro w n w' hb;rw[Sem.run_bind] at hb
 cases hr:s.run P w with
 | ok v w1=>rw[hr,Result.andThen_ok] at hb;exact h v w1 n w' hb
 | halt x w1=>rw[hr] at hb;simp at hb
theorem bV.pure {P:Program} (v:Value):bV P (pure (.value v)):=by
 intro w n w' h;simp at h;exact⟨v,h.1.symm⟩
theorem bV.nil {P:Program}:bV P (runtimePanic .nilDeref):=by
 intro w n w' h;simp[runtimePanic,goPanic] at h
section
variable {P:Program} {ops:Array Oper} {Q:Exit->Act->World->Prop} {effs pures:List Nat}
def bD (P:Program) (ops:Array Oper) (Q:Exit->Act->World->Prop) (effs pures:List Nat) (i:Nat) (K:Act->World->Prop) (a:Act) (w:World):Prop :=
 match ops[i]? with
 | none=>K a w
 | some o =>
   if effs.contains i then wpOp P ops (Strict Q) i K a w
   else if pures.contains i then ∃ v,YieldsIf P ops (fun _=>True) o v a/\K (a.put o.dst v) w
   else ∃ v,YieldsIn P ops (fun w'=>w'=w) o v a/\K (a.put o.dst v) w
def waits (ops:Array Oper):Nat->Nat->Nat->Bool
 | 0,_,_=>false
 | n+1,j,i=>match ops[j]? with
   | none=>false
   | some o=>o.after.toList.any (fun e=>Region.binds .any e&&e.on==i)||o.after.toList.any (fun e=>Region.binds .any e&&decide (i<e.on)&&waits ops n e.on i)
def iH:Op->Bool
 | .select ..|.defer ..|.go ..|.recv ..|.send ..=>false
 | _=>true
def Ry (ops:Array Oper) (effs pures:List Nat) (i j:Nat):Bool :=
 match ops[i]?,ops[j]? with
 | some oi,some oj=>oi.apart ops oj&&oj.apart ops oi&&(pures.contains i||pures.contains j||(!effs.contains i&&!effs.contains j))
 | _,_=>false
theorem jd {o:Oper} (h:iH o.op=true):∀ cs b,o.op≠.select cs b:=by
 intro cs b e;rw[e] at h;cases h
def Closed (ops:Array Oper) (listed:Array Bool):Prop:=∀ k o,ops[k]?=some o->listed.getD k false=true->∀ e∈o.after,Region.binds .any e=true->listed.getD e.on false=true
theorem lJ {listed:Array Bool} (hc:Closed ops listed):∀ (n j i:Nat),waits ops n j i=true->(∀ o,ops[j]?=some o->∀ e∈o.after,Region.binds .any e=true->listed.getD e.on false=true)->listed.getD i false=true
 | 0,_,_,h,_=>by simp[waits] at h
 | n+1,j,i,h,hj=>by
   unfold waits at h
   split at h
   ·cases h
   rename_i o ho;rw[Bool.or_eq_true,List.any_eq_true,List.any_eq_true] at h;rcases h with ⟨e,he,h⟩|⟨e,he,h⟩
   ·simp only[Bool.and_eq_true,beq_iff_eq] at h
    rw[<-h.2];exact hj o ho e (by simpa using he) h.1
   simp only[Bool.and_eq_true] at h
   have hl:=hj o ho e (by simpa using he) h.1.1;exact lJ hc n e.on i h.2 (fun o' ho' e' he' hb'=>hc e.on o' ho' hl e' he' hb')
def rest (n:Nat) (listed:Array Bool):List Nat:=(List.range n).filter (fun i=>!listed.getD i true)
structure dh (C:World->Prop) where
 w:World
 ok:C w
theorem dH {C:World->Prop} {id:Nat} {Q:Exit->Act->World->Prop} {a:Act} {w:World} {l:List Oper} (hm:P.follows .mixedOrders=true) (hB:Region.lexB .any l.toArray=true) (hC:C w.drew)
 (h:Nonempty (dh C)->wpQuiet P l.toArray (fun w'=>∃ x:dh C,w'=x.w) (fun a'=>∀ w',C w'->Q .normal a' w') l a):(Code.region id l.toArray true).wp P Q a w:=by
 have hi:=h ⟨⟨_,hC⟩⟩;have mono:∀ (l':List Oper) (a:Act),wpQuiet P l.toArray (fun w'=>∃ x:dh C,w'=x.w) (fun a'=>∀ w',C w'->Q .normal a' w') l' a ->
  wpQuiet P l.toArray (fun w'=>∃ x:dh C,w'=x.w) (fun a'=>∀ w',(∃ x:dh C,w'=x.w)->Q .normal a' w') l' a:=by
  intro l'
  induction l' with
  | nil=>intro a hx w' hw;obtain⟨x,rfl⟩:=hw;exact hx x.w x.ok
  | cons o r ih =>
    intro a hx;unfold wpQuiet at hx ⊢
    split
    ·rename_i hw;rw[if_pos hw] at hx;exact Oper.quiet_mono ih hx
    rename_i hw;rw[if_neg hw] at hx;exact ih _ hx
 exact wp_region_quiet (C:=fun w'=>∃ x:dh C,w'=x.w) hm hB ⟨⟨_,hC⟩,rfl⟩ (by simpa using mono l a hi)
end
end Go.Bw
namespace Go.Bw
open Go
section
variable {P:Program} {ops:Array Oper} {md:Region.Mode} {C:World->Prop}
def BJ (P:Program) (md:Region.Mode) (ops:Array Oper) (C:World->Prop) (n:Nat) (L:Array Bool->Act->Prop):Nat->Array Bool->Act->Prop
 | 0,got,a=>L got a
 | f+1,got,a=>Region.ready md ops got≠[]/\∀ i∈Region.ready md ops got,i<n/\qOp P ops C i (BJ P md ops C n L f (got.setIfInBounds i true)) a
theorem zT {n g:Nat} {L:Array Bool->Act->Prop} {R:Exit->Act->World->Prop} (hL:∀ got a w,C w->L got a->wpAny P md ops R g got a w) :
 ∀ (f:Nat) (got:Array Bool) (a:Act) (w:World),C w->BJ P md ops C n L f got a->wpAny P md ops R (f+g) got a w:=by
 intro f
 induction f with
 | zero=>intro got a w hw h;rw[Nat.zero_add];exact hL _ _ _ hw h
 | succ f ih =>
   intro got a w hw h;rw[Nat.add_right_comm];exact⟨fun e=>absurd e h.1,fun i hi=>wpOp_of_qOp hw (fun a' w' hw' h'=>ih _ a' w' hw' h') (h.2 i hi).2⟩
theorem BQ {n i:Nat} {oi:Oper} {v:Value} {L:Array Bool->Act->Prop} (hi:ops[i]?=some oi) (hsel:∀ (j:Nat) (o:Oper) cs b,ops[j]?=some o->o.op≠.select cs b)
 (hs:Region.sinkB md ops n=true) (hc:Region.chainB md ops n=true) (hn:n<ops.size) (hin:i<n) (hL:∀ got a,L got a->∀ j∈Region.ready md ops got,n<=j) :
 ∀ (f:Nat) (got:Array Bool) (a:Act),HeadInv md ops n got ->
  (∀ j oj,ops[j]?=some oj->j≠i->got.getD j true=false->(∀ e∈oj.after,Region.binds md e=true->e.on≠i)->oi.apart ops oj=true) ->
  i∈Region.ready md ops got->YieldsIn P ops C oi v a->BJ P md ops C n L f (got.setIfInBounds i true) (a.put oi.dst v)->BJ P md ops C n L (f+1) got a:=by
 intro f
 induction f with
 | zero =>
   intro got a inv _ hr hy H;have hun:=(mem_ready.1 hr).1;refine⟨fun e=>(by rw[e] at hr;cases hr),fun j hj=>?_⟩;have hjn:j<n:=Nat.lt_of_not_le (fun hle=>absurd hj (tail_waits hs hc hn inv _ i rfl hin hun j hle));refine⟨hjn,?_⟩;rcases Decidable.em (j=i) with e|e
   ·subst e;exact hy.qOp hi H
   exact absurd (hL _ _ H j (ready_mono hj e)) (by omega)
 | succ f ih =>
   intro got a inv hfree hr hy H;have hun:=(mem_ready.1 hr).1;refine⟨fun e=>(by rw[e] at hr;cases hr),fun j hj=>?_⟩;have hjn:j<n:=Nat.lt_of_not_le (fun hle=>absurd hj (tail_waits hs hc hn inv _ i rfl hin hun j hle));refine⟨hjn,?_⟩;rcases Decidable.em (j=i) with e|hji
   ·subst e;exact hy.qOp hi H
   obtain⟨hjun,oj,hoj,hall⟩:=mem_ready.1 hj;have hnot:∀ e∈oj.after,Region.binds md e=true->e.on≠i:=fun e he hb heq=>by
    have:=hall e he hb;rw[heq,getD_both hun] at this
    cases this
   have h2:=qOp_put hoj (hfree j oj hoj hji hjun hnot) (fun cs b=>hsel i oi cs b hi) (fun cs b=>hsel j oj cs b hoj) hy ((H.2 j (ready_mono hj hji)).2);refine qOp_mono (fun a' h3=>ih (got.setIfInBounds j true) a' (inv.set hj hjn) (fun k ok hk hki hun' hno=>?_) (ready_mono hr (Ne.symm hji)) h3.1 ?_) h2
   ·refine hfree k ok hk hki ?_ hno;rcases Decidable.em (j=k) with e|e
    ·subst e;exact hjun
    rw[getD_set_ne true e] at hun';exact hun'
   rw[Array.setIfInBounds_comm _ _ hji];exact h3.2
theorem Jw {n g:Nat} {T:Act->Prop} (hsel:Region.noSelect ops=true) (hs:Region.sinkB md ops n=true) (hc:Region.chainB md ops n=true) (hn:n<ops.size) :
 ∀ (l:List Oper) (k:Nat) (got:Array Bool) (a:Act),(∀ j,j<l.length->l[j]?=ops[k+j]?)->k+l.length=n->HeadInv md ops n got ->
 Region.lexHead md ops g l.length k got=true->wpQuiet P ops C T l a->BJ P md ops C n (fun got' a'=>Region.seqB md ops g n got'=true/\T a') l.length got a:=by
 intro l
 induction l with
 | nil =>
   intro k got a _ hk _ hB h;obtain rfl:k=n:=by simpa using hk
   exact⟨by simpa [Region.lexHead] using hB,h⟩
 | cons o l ih =>
   intro k got a hl hk inv hB h;have h0:ops[k]?=some o:=by simpa using (hl 0 (by simp)).symm
   simp only[List.length_cons,Region.lexHead,Bool.and_eq_true] at hB
   have hkn:k<n:=by simp only[List.length_cons] at hk;omega
   have hr:k∈Region.ready md ops got:=by simpa using hB.1.1
   have hq:qOp P ops C k (wpQuiet P ops C T l) a:=by unfold qOp;simp only[h0];exact h
   obtain⟨v,hy,hK⟩:=yieldsIn_of_qOp h0 hq;exact BQ h0 (Region.noSelect_spec hsel) hs hc hn hkn (fun got' a' hL=>seqB_ready hL.1) l.length got a inv (Region.free_spec h0 hB.1.2) hr hy
    (ih (k+1) _ _ (fun j hj=>by have:=hl (j+1) (by simp;omega);simpa [Nat.add_assoc,Nat.add_comm 1 j] using this) (by simp only[List.length_cons] at hk;omega) (inv.set hr hkn) hB.2 hK)
theorem iZ {id:Nat} {Q:Exit->Act->World->Prop} {a:Act} {w:World} {l:List Oper} (n:Nat) (hm:P.follows .mixedOrders=true) (hB:Region.lexTailB .any l.toArray n=true) (hC:C w.drew)
 (h:Nonempty (dh C)->wpQuiet P l.toArray (fun w'=>∃ x:dh C,w'=x.w) (fun a'=>∀ x:dh C,wpList P l.toArray Q (l.drop n) a' x.w) (l.take n) a):(Code.region id l.toArray true).wp P Q a w:=by
 have h:=h ⟨⟨_,hC⟩⟩
 simp only[Region.lexTailB,Bool.and_eq_true,decide_eq_true_eq] at hB
 obtain⟨⟨⟨⟨hsel,hn⟩,hs⟩,hc⟩,hlex⟩:=hB;have hn':n<l.length:=by simpa using hn
 have htl:(l.take n).length=n:=by rw[List.length_take];omega
 have hdl:(l.drop n).length=l.toArray.size - n:=by simp
 have inv0:HeadInv .any l.toArray n (Array.replicate l.toArray.size false) :=
  ⟨by simp,fun j oj _ hl=>(by rw[getD_replicate_false] at hl;cases hl),fun t _ ht=>getD_in (by simpa using ht) (getD_replicate_false _ _)⟩
 have H:=Jw (md:=.any) (g:=l.toArray.size - n) hsel hs hc hn (l.take n) 0 _ a (fun j hj=>by
  rw[htl] at hj;simp[hj]) (by simpa using htl) inv0 (by rw[htl];exact hlex) h
 refine wp_region_any hm ?_;have:=zT (R:=Q) (g:=l.toArray.size - n) (fun got a' w' hw' hL=>by
  obtain⟨x,rfl⟩:=hw';have:=wpAny_of_seq (md:=.any) (Q':=Q) (l.drop n) n got a' x.w (fun j=>by simp[List.getElem?_drop]) (by rw[hdl];exact hL.1) (hL.2 x)
  rwa [hdl] at this) _ _ _ w.drew ⟨⟨_,hC⟩,rfl⟩ H
 rw[htl,show n+(l.toArray.size - n)=l.toArray.size by omega] at this;exact this
end
end Go.Bw
namespace Go.Bw.Keep
open Go.Bw
def iY:Op->Bool
 | .move _|.assign _|.pick ..|.nilCheck _|.fieldAddr ..|.extract ..|.convert ..|.slice ..|.load ..|.index ..|.indexAddr ..|.field ..|.unOp ..|.binOp ..=>true
 | .call ⟨.builtin .len,_,_⟩=>true
 | _=>false
theorem oZ {P:Program} {ρ:Operand->Value} {o:Oper} (hs:iY o.op=true):bV P (execOp ρ o):=by
 obtain⟨dst,op,type,pos,after,guard⟩:=o;by_cases hc:∃ as0 ts,op=.call ⟨.builtin .len,as0,ts⟩
 ·obtain⟨as0,ts,rfl⟩:=hc;intro w n w' h;have h':(do let x <-Builtin.len_ ts type (as0.map ρ);pure (.value x):Sem Next).run P w=.ok n w':=by
   simpa [execOp,resolve,invoke,builtin] using h
  exact bV.bind (fun _=>bV.pure _) w n w' h'
 cases op <;> first|(simp only[iY] at hs;done)|skip
 case call c =>
  exfalso
  obtain⟨callee,as0,ts⟩:=c
  cases callee with
  | builtin b=>cases b <;> first|(exact hc ⟨as0,ts,rfl⟩)|(simp[iY] at hs)
  | _=>simp[iY] at hs
 all_goals try (simp only[iY] at hs;cases hs;done)
 case move x=>exact bV.pure _
 case assign x=>exact bV.pure _
 case pick c x y=>exact bV.bind (fun _=>bV.pure _)
 case fieldAddr s x f=>exact bV.bind (fun _=>bV.pure _)
 case extract t ix=>exact bV.bind (fun _=>bV.pure _)
 case convert=>exact bV.bind (fun _=>bV.pure _)
 case slice=>exact bV.bind (fun _=>bV.pure _)
 case load=>exact bV.bind (fun _=>bV.pure _)
 case index=>exact bV.bind (fun _=>bV.pure _)
 case indexAddr=>exact bV.bind (fun _=>bV.pure _)
 case field=>exact bV.bind (fun _=>bV.pure _)
 case unOp=>exact bV.bind (fun _=>bV.pure _)
 case binOp=>exact bV.bind (fun _=>bV.pure _)
 case nilCheck x =>
  simp only[execOp]
  split
  ·exact bV.nil
  ·exact bV.nil
  ·exact bV.nil
  ·split
   ·exact bV.nil
   ·refine bV.bind (fun _=>bV.bind (fun _=>?_))
    split
    ·exact bV.bind (fun _=>bV.pure _)
    exact bV.pure _
   exact bV.pure _
  exact bV.pure _
section
variable {P:Program} {ops:Array Oper} {Q:Exit->Act->World->Prop} {effs pures:List Nat} {C:World->Prop}
def bD (P:Program) (ops:Array Oper) (Q:Exit->Act->World->Prop) (C:World->Prop) (effs pures:List Nat) (i:Nat) (K:Act->World->Prop) (a:Act) (w:World):Prop :=
 match ops[i]? with
 | none=>K a w
 | some o =>
   if effs.contains i then wpOp P ops (Strict Q) i (fun a w=>C w/\K a w) a w
   else if pures.contains i then ∃ v,YieldsIf P ops C o v a/\K (a.put o.dst v) w
   else ∃ v,YieldsIn P ops (fun w'=>w'=w) o v a/\K (a.put o.dst v) w
end
end Go.Bw.Keep
namespace Go.Bw
open Go.RowKit
def dn (P:Program) (w:World) (t:TypeId) (cs:List Value):Prop :=
 ∃ (H:Type) (enc:TypeId×Value->H) (base:Nat) (held:Bool) (fuel:Nat) (x:DataW H×List MemPlace),
  DataW.trod enc P w base (fun _=>true) held fuel t cs=some x/\∀ n∈x.1.weights P t,n<=reachBytes
variable {P:Program} {w:World} {t e:TypeId} {cs:List Value}
theorem dn.int {k:IntKind} (ht:P.underlying t=some (.int k)) (h:dn P w t cs):∃ n,cs=[.int k n]/\(Lit.int k n).wf=true:=by
 obtain⟨H,enc,base,held,fuel,x,hx,hw⟩:=h;obtain⟨n,h1,h2,h3⟩:=DataW.trod_int ht hx;exact⟨n,h1,by assumption⟩
theorem dn.bool (ht:P.underlying t=some .bool) (h:dn P w t cs):∃ b,cs=[.bool b]:=by
 obtain⟨H,enc,base,held,fuel,x,hx,hw⟩:=h;obtain⟨n,h1,h2⟩:=DataW.trod_bool ht hx;exact⟨n,h1⟩
theorem dn.string (ht:P.underlying t=some .string) (h:dn P w t cs):∃ s:ByteArray,cs=[.string s]/\s.size<=reachBytes/\s.size<=maxLen:=by
 obtain⟨H,enc,base,held,fuel,x,hx,hw⟩:=h;obtain⟨s,h1,h2,h3⟩:=DataW.trod_string ht hx;subst h2;have:=hw s.data.toList.length (by simp[DataW.weights]);exact⟨s,h1,by simpa using this,by assumption⟩
theorem pO {H:Type} {x:DataW H} {n:Nat}:∀ {ts:List TypeId} {ds:List (DataW H)} {j:Nat} {u:TypeId},ts[j]?=some u->ds[j]?=some x->n∈x.weights P u->n∈DataW.weightsEach P ts ds :=
 fun ht hd hn=>DataW.weights_mem_each ht hd n hn
theorem dn.struct {fs:Array Field} (ht:P.underlying t=some (.struct fs)) (h:dn P w t cs) :
 cs.length=P.cellsOf t/\∀ (i:Nat) (f:Field),fs[i]?=some f->dn P w f.type ((cs.drop f.offset).take (P.cellsOf f.type)):=by
 obtain⟨H,enc,base,held,fuel,x,hx,hw⟩:=h;obtain⟨xs,n,_,rfl,hl,hlen,hf⟩:=DataW.trod_struct ht hx;refine⟨hl,fun i f hfi=>?_⟩;have hi:i<xs.length:=by
  rw[hlen];exact (Array.getElem?_eq_some_iff.1 hfi).1
 have h1:=hf i f hfi;rw[List.getElem?_eq_getElem hi] at h1;refine⟨H,enc,base,held,n,xs[i],h1,fun m hm=>hw m ?_⟩
 simp only[DataW.weights,ht]
 exact pO (j:=i) (u:=f.type) (x:=xs[i].1) (by simp[hfi]) (by simp[hi]) hm
theorem dn.field {fs:Array Field} (ht:P.underlying t=some (.struct fs)) (h:dn P w t cs) (i:Nat) {u:TypeId} (hf:(fs[i]?).map (fun f=>(f.type,f.offset))=some (u,i)) (hc:P.cellsOf u=1) {c:Value} (hci:cs[i]?=some c):dn P w u [c]:=by
 obtain⟨_,hh⟩:=h.struct ht;obtain⟨f,hfi,he⟩:=Option.map_eq_some_iff.1 hf;have h1:=hh i f hfi
 simp only[Prod.mk.injEq] at he
 rw[he.1,he.2,hc] at h1;have hi:=(List.getElem?_eq_some_iff.1 hci).1;have e:(cs.drop i).take 1=[c]:=by
  rw[List.drop_eq_getElem_cons hi]
  simp only[List.take_succ_cons,List.take_zero]
  rw[(List.getElem?_eq_some_iff.1 hci).2]
 rw[e] at h1;exact h1
theorem weightsAll_mem {H:Type} {n:Nat} {x:DataW H}:∀ {ds:List (DataW H)},x∈ds->n∈x.weights P e->n∈DataW.weightsAll P e ds
 | d::r,h,hn=>by
   simp only[DataW.weightsAll,List.mem_append]
   rcases List.mem_cons.1 h with rfl|h
   ·exact Or.inl hn
   exact Or.inr (weightsAll_mem h hn)
theorem dn.slice (ht:P.underlying t=some (.slice e)) (h:dn P w t cs) :
 ∃ (a:Option Addr) (len cap:Nat),cs=[.slice a len cap]/\len<=cap/\cap<=maxLen/\(a=none->cap=0)/\cap*P.bytesOf e<=reachBytes /\
  ∀ x,a=some x->∀ i,i<cap->∃ cs',cs'.length=P.cellsOf e/\(∀ j v,cs'[j]?=some v->w.cell? (x.add (i*P.cellsOf e+j))=some v)/\dn P w e cs':=by
 obtain⟨H,enc,base,held,fuel,x,hx,hw⟩:=h;rcases Deep.open_slice ht hx with ⟨rfl,rfl⟩|⟨a,len,cap,m,n,D,Pl,rfl,hb,hl,hm,hmm,rfl,hel⟩
 ·exact⟨none,0,0,rfl,Nat.le_refl _,Nat.zero_le _,fun _=>rfl,by simp,fun x hx=>by cases hx⟩
 simp only[if_true] at hmm
 subst hmm;refine⟨some a,len,m,rfl,hl,hm,(fun h=>by cases h),?_,fun x hxa i hi=>?_⟩
 ·have:=hw ((len+(m - len))*P.bytesOf e) (by simp[DataW.weights,ht])
  rwa [show len+(m - len)=m from by omega] at this
 cases hxa;obtain⟨cs',h1,h2⟩:=hel i hi;obtain⟨_,h3,h4⟩:=World.cells?_some h1;refine⟨cs',h3,fun j v hj=>?_,H,enc,base,held,n,(D i,Pl i),h2,fun q hq=>hw q ?_⟩
 ·have hjl:j<P.cellsOf e:=by rw[<-h3];exact (List.getElem?_eq_some_iff.1 hj).1
  rw[<-Deep.add_add,h4 j hjl];exact hj
 simp only[DataW.weights,ht,List.mem_cons,List.mem_append]
 right
 by_cases hil:i<len
 ·exact Or.inl (weightsAll_mem (x:=D i) (List.mem_map.2 ⟨i,List.mem_range.2 hil,rfl⟩) hq)
 exact Or.inr (weightsAll_mem (x:=D i) (List.mem_map.2 ⟨i - len,List.mem_range.2 (by omega),by congr 1;omega⟩) hq)
theorem xU {a:Addr} {v:Value} (h:w.cell? (a.add 0)=some v):a=⟨a.block,a.off,none⟩:=by
 obtain⟨b,o,sp⟩:=a
 cases sp with
 | none=>rfl
 | some s=>simp[World.cell?,Addr.add] at h;split at h <;> cases h
theorem add_plain (b o j:Nat):(⟨b,o,none⟩:Addr).add j=⟨b,o+j,none⟩:=by cases j <;> simp[Addr.add]
theorem dn.row {n:Nat} (ht:P.underlying t=some (.slice e)) (hn:P.cellsOf e=n) (h0:0<n) (h:dn P w t cs) :
 ∃ (a:Option Addr) (len cap:Nat),cs=[.slice a len cap]/\len<=cap/\cap<=maxLen/\(a=none->cap=0)/\cap*P.bytesOf e<=reachBytes /\
  ∀ i,i<cap->∃ b o cs',a=some ⟨b,o,none⟩/\cs'.length=n/\(∀ j v,cs'[j]?=some v->w.cell? ⟨b,o+i*n+j,none⟩=some v)/\dn P w e cs':=by
 obtain⟨a,len,cap,hv,hl,hm,hnil,hsz,hel⟩:=h.slice ht;rw[hn] at hel;refine⟨a,len,cap,hv,hl,hm,hnil,hsz,fun i hi=>?_⟩
 cases a with
 | none=>have:=hnil rfl;omega
 | some a =>
   obtain⟨cs',h1,h2,h3⟩:=hel a rfl i hi;obtain⟨cs0,g1,g2,_⟩:=hel a rfl 0 (by omega);have hp:=xU (by simpa using g2 0 (cs0[0]'(by omega)) (List.getElem?_eq_getElem _));refine⟨a.block,a.off,cs',by rw[<-hp],h1,fun j v hj=>?_,h3⟩;have:=h2 j v hj;rw[hp,add_plain] at this;rw[Nat.add_assoc];exact this
theorem dn.array {n:Nat} (ht:P.underlying t=some (.array n e)) (h:dn P w t cs) :
 cs.length=P.cellsOf t/\∀ i,i<n->dn P w e ((cs.drop (i*P.cellsOf e)).take (P.cellsOf e)):=by
 obtain⟨H,enc,base,held,fuel,x,hx,hw⟩:=h;obtain⟨xs,m,_,rfl,hl,hlen,hf⟩:=DataW.trod_array ht hx;refine⟨hl,fun i hi=>?_⟩;have h1:=hf i hi;rw[List.getElem?_eq_getElem (by omega)] at h1;refine⟨H,enc,base,held,m,_,h1,fun q hq=>hw q ?_⟩
 simp only[DataW.weights,ht]
 exact weightsAll_mem (x:=(xs[i]'(by omega)).1) (List.mem_map.2 ⟨_,List.getElem_mem _,rfl⟩) hq
theorem rH {H:Type} {enc:TypeId×Value->H} {base:Nat} {held:Bool} {ts:List TypeId} {ds:List (DataW H)} {v:Value} {d:DataW H} {p:List MemPlace} {j:Nat}
 (h:DataW.Trod enc P w base (fun _=>true) held t v d p) (hsz:(DataW.weightsEach P ts ds).all (·<=reachBytes)=true) (ht:ts[j]?=some t) (hd:ds[j]?=some d):dn P w t v.cells.toList:=by
 obtain⟨fuel,hf⟩:=h;exact⟨H,enc,base,held,fuel,(d,p),hf,fun n hn=>by simpa using List.all_eq_true.1 hsz n (pO ht hd hn)⟩
end Go.Bw
namespace Go.Bw
open Go.RowKit
theorem Mod.of_below {w w':World} (h:Below w.heap.size w w'):Mod (fun _=>False) w w':=⟨h.os,h.tape,h.output,h.size,fun k hk _=>h.block k hk⟩
theorem eu {w:World} {b:Nat} {cs:Array Value} {t:TypeId} {fr:Nat×Nat} (h:w.heap[b]?=some (.cells cs t fr)) (o:Nat) (u:Value) (cs':Array Value) (hc:cs.setIfInBounds o u=cs') :
 (w.setCell ⟨b,o,none⟩ u).heap[b]?=some (.cells cs' t fr):=by rw[bC h,hc]
theorem below_drewN {w w':World} (h:Below w.heap.size w w') (k:Nat):Below w.heap.size w (w'.drewN k):=⟨h.os,h.tape,h.output,h.size,h.block⟩
end Go.Bw
namespace Go.Bw.Fall
open Go.Bw Go.Bw.Keep
def Fall (R:List PanicEntry->List Deferred->World->Prop) (Q:Exit->Act->World->Prop):Exit->Act->World->Prop
 | .panic c,a,w=>R c a.defers w
 | .outgrown,_,_=>False
 | e,a,w=>Q e a w
theorem Fall.imp {R:List PanicEntry->List Deferred->World->Prop} {Q:Exit->Act->World->Prop} (hR:∀ c a w,R c a.defers w->Q (.panic c) a w) {e:Exit} {a:Act} {w:World} (h:Fall R Q e a w):Q e a w:=by
 cases e <;> first|exact h|exact hR _ _ _ h|exact h.elim
theorem NT (a:Act) (d:Option Tmp) (v:Value):(a.put d v).defers=a.defers:=by cases d <;> rfl
theorem Fall.Ol {R:List PanicEntry->List Deferred->World->Prop} {Q:Exit->Act->World->Prop} {c:List PanicEntry} {a:Act} {w:World} {d:Option Tmp} {v:Value} (h:Fall R Q (.panic c) (a.put d v) w):Fall R Q (.panic c) a w:=by
 have h':R c (a.put d v).defers w:=h;rw[NT] at h';exact h'
def rq (ops:Array Oper) (effs pures:List Nat) (i j:Nat):Bool :=
 match ops[i]?,ops[j]? with
 | some oi,some oj=>oi.apart ops oj&&oj.apart ops oi&&!effs.contains i&&(pures.contains i||!effs.contains j)
 | _,_=>true
section
variable {P:Program} {ops:Array Oper} {Q:Exit->Act->World->Prop} {effs pures:List Nat} {C:World->Prop} {R:List PanicEntry->List Deferred->World->Prop}
def bD (P:Program) (ops:Array Oper) (R:List PanicEntry->List Deferred->World->Prop) (Q:Exit->Act->World->Prop) (C:World->Prop) (effs pures:List Nat) (i:Nat) (K:Act->World->Prop) (a:Act) (w:World):Prop :=
 match ops[i]? with
 | none=>K a w
 | some o =>
   if effs.contains i then wpOp P ops (Fall R Q) i (fun a w=>C w/\K a w) a w
   else if pures.contains i then ∃ v,YieldsIf P ops C o v a/\K (a.put o.dst v) w
   else ∃ v,YieldsIn P ops (fun w'=>w'=w) o v a/\K (a.put o.dst v) w
theorem jU {i:Nat} {K K':Act->World->Prop} (h:∀ a w,K a w->K' a w) {a:Act} {w:World} (hh:bD P ops R Q C effs pures i K a w):bD P ops R Q C effs pures i K' a w:=by
 unfold bD at *
 split
 ·rename_i ho;simp only[ho] at hh;exact h _ _ hh
 rename_i o ho
 simp only[ho] at hh
 split
 ·rename_i he;rw[if_pos he] at hh;exact wpOp_mono (fun a w hx=>⟨hx.1,h _ _ hx.2⟩) hh
 rename_i he;rw[if_neg he] at hh
 split
 ·rename_i hp;rw[if_pos hp] at hh;obtain⟨v,h1,h2⟩:=hh;exact⟨v,h1,h _ _ h2⟩
 rename_i hp;rw[if_neg hp] at hh;obtain⟨v,h1,h2⟩:=hh;exact⟨v,h1,h _ _ h2⟩
theorem jV {i:Nat} {K:Act->World->Prop} {a:Act} {w:World} (hw:C w) (hh:bD P ops R Q C effs pures i K a w):wpOp P ops (Fall R Q) i (fun a w=>C w/\K a w) a w:=by
 unfold bD at hh
 split at hh
 ·rename_i ho;unfold wpOp;simp only[ho];exact⟨hw,hh⟩
 rename_i o ho
 split at hh
 ·exact hh
 split at hh
 ·obtain⟨v,h1,h2⟩:=hh;exact h1.wpOp (S:=C) ho hw ⟨hw,h2⟩
 obtain⟨v,h1,h2⟩:=hh;exact wpOp_of_qOp (C:=fun w'=>w'=w) (K:=fun a'=>a'=a.put o.dst v) rfl (fun a' w' e h=>by subst e;subst h;exact⟨hw,h2⟩) (h1.qOp ho rfl)
theorem qp {i j:Nat} {oi oj:Oper} (hi:ops[i]?=some oi) (hj:ops[j]?=some oj) (hpi:iH oi.op=true) (hpj:iH oj.op=true) (hc:rq ops effs pures i j=true) (hei:pures.contains i=true->effs.contains i=false) (hej:pures.contains j=true->effs.contains j=false)
 {K:Act->World->Prop} {a:Act} {w:World} (h:bD P ops R Q C effs pures i (bD P ops R Q C effs pures j K) a w):bD P ops R Q C effs pures j (bD P ops R Q C effs pures i K) a w:=by
 unfold rq at hc
 simp only[hi,hj,Bool.and_eq_true,Bool.or_eq_true,Bool.not_eq_true'] at hc
 obtain⟨⟨⟨apij,apji⟩,ei'⟩,hk⟩:=hc;obtain⟨h1,h2,h3⟩:=Oper.apart_spec apij;have hsi:=jd hpi;have hsj:=jd hpj;unfold bD at h ⊢
 simp only[hi,hj] at h ⊢
 by_cases ej:effs.contains j=true
 ·-- j may do anything: i is pure
  have pj:pures.contains j=false:=by cases hp:pures.contains j;rfl;rw[hej hp] at ej;cases ej
  have pi:pures.contains i=true:=by
   rcases hk with hk|hk
   ·exact hk
   rw[hk] at ej;cases ej
  simp only[ej,ei',pi,if_true,Bool.false_eq_true,if_false] at h ⊢
  obtain⟨v,hv,hh⟩:=h;have:=wpOp_putIf (S:=C) hj apij hsi hsj (fun _ _ _ hq=>hq.Ol) hv hh;exact wpOp_mono (fun a' w' hx=>⟨hx.2.1,v,hx.1,hx.2.2⟩) this
 have ej':effs.contains j=false:=by simpa using ej
 skip
 simp only[ei',ej',Bool.false_eq_true,if_false] at h ⊢
 -- neither does anything to the world
 have key:∀ (Yi Yj:Value->Act->Prop),(∀ v (x:Act) d u,Yi v x->(∀ t,d=some t->t∉oi.looksAt ops)->Yi v (x.put d u))->(∀ v (x:Act) d u,Yj v (x.put d u)->(∀ t,d=some t->t∉oj.looksAt ops)->Yj v x) ->
  (∃ v,Yi v a/\∃ u,Yj u (a.put oi.dst v)/\K ((a.put oi.dst v).put oj.dst u) w)->∃ u,Yj u a/\∃ v,Yi v (a.put oj.dst u)/\K ((a.put oj.dst u).put oi.dst v) w:=by
  rintro Yi Yj ki kj ⟨v,hv,u,hu,hK⟩;exact⟨u,kj u a oi.dst v hu h1,v,ki v a oj.dst u hv h3,by rw[<-Act.put_comm a v u h2];exact hK⟩
 have pif:∀ (o:Oper) (hs:∀ cs b,o.op≠.select cs b) v (x:Act) d u,YieldsIf P ops C o v x->(∀ t,d=some t->t∉o.looksAt ops)->YieldsIf P ops C o v (x.put d u) :=
  fun o hs v x d u hy hd=>hy.of_same (execOp_put o hs x d u hd) (wanted_put o x d u hd)
 have pif':∀ (o:Oper) (hs:∀ cs b,o.op≠.select cs b) v (x:Act) d u,YieldsIf P ops C o v (x.put d u)->(∀ t,d=some t->t∉o.looksAt ops)->YieldsIf P ops C o v x :=
  fun o hs v x d u hy hd=>hy.of_same (execOp_put o hs x d u hd).symm (wanted_put o x d u hd).symm
 have pin:∀ (o:Oper) (hs:∀ cs b,o.op≠.select cs b) v (x:Act) d u,YieldsIn P ops (fun w'=>w'=w) o v x->(∀ t,d=some t->t∉o.looksAt ops)->YieldsIn P ops (fun w'=>w'=w) o v (x.put d u) :=
  fun o hs v x d u hy hd=>hy.of_same (execOp_put o hs x d u hd) (wanted_put o x d u hd)
 have pin':∀ (o:Oper) (hs:∀ cs b,o.op≠.select cs b) v (x:Act) d u,YieldsIn P ops (fun w'=>w'=w) o v (x.put d u)->(∀ t,d=some t->t∉o.looksAt ops)->YieldsIn P ops (fun w'=>w'=w) o v x :=
  fun o hs v x d u hy hd=>hy.of_same (execOp_put o hs x d u hd).symm (wanted_put o x d u hd).symm
 by_cases pi:pures.contains i=true <;> by_cases pj:pures.contains j=true
 ·simp only[pi,pj,if_true] at h ⊢
  exact key _ _ (pif oi hsi) (pif' oj hsj) h
 ·have pj':pures.contains j=false:=by simpa using pj
  simp only[pi,pj',if_true,Bool.false_eq_true,if_false] at h ⊢
  exact key _ _ (pif oi hsi) (pin' oj hsj) h
 ·have pi':pures.contains i=false:=by simpa using pi
  simp only[pi',pj,if_true,Bool.false_eq_true,if_false] at h ⊢
  exact key _ _ (pin oi hsi) (pif' oj hsj) h
 have pi':pures.contains i=false:=by simpa using pi
 have pj':pures.contains j=false:=by simpa using pj
 simp only[pi',pj',Bool.false_eq_true,if_false] at h ⊢
 exact key _ _ (pin oi hsi) (pin' oj hsj) h
end
end Go.Bw.Fall
namespace Go.Bw.Fall
open Go.Bw Go.Bw.Keep
inductive Plan
 | leaf
 | step (i:Nat) (t:Plan)
 | fork (i:Nat) (s:Plan) (k:Nat) (t:Plan)
def Plan.idx:Plan->List Nat
 | .leaf=>[]
 | .step i t=>i::t.idx
 | .fork i s _ _=>i::s.idx
def Plan.steps:List Nat->Plan->Plan
 | [],t=>t
 | i::is,t=>.step i (Plan.steps is t)
def nth:List Oper->Nat->Option Oper
 | [],_=>none
 | o::_,0=>some o
 | _::l,n+1=>nth l n
theorem nC:∀ (l:List Oper) (n:Nat),nth l n=l[n]?
 | [],_=>by simp[nth]
 | o::l,0=>by simp[nth]
 | o::l,n+1=>by simp[nth,nC l n]
def ay (l:List Oper):List Nat->List Oper
 | []=>[]
 | i::is=>match nth l i with
   | some o=>o::ay l is
   | none=>ay l is
section
variable {P:Program} {ops:Array Oper} {Q:Exit->Act->World->Prop} {effs pures:List Nat} {C:World->Prop} {R:List PanicEntry->List Deferred->World->Prop}
def bf (P:Program) (ops:Array Oper) (R:List PanicEntry->List Deferred->World->Prop) (Q:Exit->Act->World->Prop) (C:World->Prop) (effs pures:List Nat):Plan->Act->World->Prop
 | .leaf,a,w=>Q .normal a w
 | .step i t,a,w=>bD P ops R Q C effs pures i (bf P ops R Q C effs pures t) a w
 | .fork i s k t,a,w=>bD P ops R Q C effs pures i (bf P ops R Q C effs pures s) a w/\bD P ops R Q C effs pures k (bf P ops R Q C effs pures t) a w
def xR (ops:Array Oper) (effs pures:List Nat):Plan->Bool
 | .leaf=>true
 | .step i t=>xR ops effs pures t&&!t.idx.contains i&&t.idx.all (fun j=>rq ops effs pures i j||waits ops 12 j i)
 | .fork i s k t=>xR ops effs pures s&&xR ops effs pures t&&!s.idx.contains i&&!t.idx.contains k&&(s.idx.length==t.idx.length) &&
  (i::s.idx).all (fun j=>(k::t.idx).contains j)&&(k::t.idx).all (fun j=>(i::s.idx).contains j) &&
  s.idx.all (fun j=>(j==k)||waits ops 12 j i||waits ops 12 j k)
def zI (ops:Array Oper) (effs pures:List Nat) (t:Plan):Bool :=
 ops.all (fun o=>iH o.op) &&
 (List.range ops.size).all (fun j =>
  ((ops[j]?).map (fun o=>o.after.all (fun e=>!Region.binds .any e||decide (e.on<j)))).getD true &&
  ((ops[j]?).map (fun o=>!pures.contains j||(Keep.iY o.op&&!effs.contains j))).getD true) &&
 xR ops effs pures t&&(t.idx.length==ops.size)&&t.idx.all (fun i=>decide (i<ops.size))&&(List.range ops.size).all (fun i=>t.idx.contains i)
theorem pull {j:Nat} (hp:∀ (j:Nat) o,ops[j]?=some o->iH o.op=true) (hpe:∀ (j:Nat) o,ops[j]?=some o->pures.contains j=true->effs.contains j=false) :
 ∀ t:Plan,xR ops effs pures t=true->(∀ i∈t.idx,i<ops.size)->j∈t.idx->(∀ i∈t.idx,i≠j->waits ops 12 j i=false) ->
 ∃ t':Plan,xR ops effs pures t'=true/\(∀ i,i∈t'.idx↔i∈t.idx/\i≠j)/\t'.idx.length+1=t.idx.length /\
  ∀ a w,bf P ops R Q C effs pures t a w->bD P ops R Q C effs pures j (bf P ops R Q C effs pures t') a w:=by
 intro t
 induction t with
 | leaf=>intro _ _ hj;cases hj
 | step i t ih =>
   intro hok hlt hj hw
   simp only[xR,Bool.and_eq_true,Bool.not_eq_true',List.all_eq_true] at hok
   obtain⟨⟨h1,h2⟩,h3⟩:=hok;have h2':i∉t.idx:=fun hm=>by rw[List.contains_iff_mem.2 hm] at h2;cases h2
   by_cases e:j=i
   ·subst e;refine⟨t,h1,fun i=>?_,rfl,fun a w h=>h⟩
    simp only[Plan.idx,List.mem_cons]
    constructor
    ·intro hi;exact⟨Or.inr hi,fun e=>h2' (e▸hi)⟩
    rintro⟨hi|hi,hne⟩
    ·exact absurd hi hne
    exact hi
   have hj':j∈t.idx:=by
    rcases List.mem_cons.1 hj with h|h
    ·exact absurd h e
    exact h
   obtain⟨t',o1,o2,o3,o4⟩:=ih h1 (fun i hi=>hlt i (List.mem_cons_of_mem _ hi)) hj' (fun i hi=>hw i (List.mem_cons_of_mem _ hi));have hcm:rq ops effs pures i j=true:=by
    have:=h3 j hj';rw[Bool.or_eq_true] at this;rcases this with h|h
    ·exact h
    rw[hw i (by simp[Plan.idx]) (fun e2=>e e2.symm)] at h;cases h
   have hil:=hlt i (by simp[Plan.idx]);have hjl:=hlt j hj;obtain⟨oi,hoi⟩:∃ o,ops[i]?=some o:=⟨_,Array.getElem?_eq_getElem hil⟩;obtain⟨oj,hoj⟩:∃ o,ops[j]?=some o:=⟨_,Array.getElem?_eq_getElem hjl⟩;refine⟨.step i t',?_,fun x=>?_,by simp[Plan.idx];omega,fun a w h=>?_⟩
   ·simp only[xR,Bool.and_eq_true,Bool.not_eq_true',List.all_eq_true]
    refine⟨⟨o1,?_⟩,fun x hx=>h3 x ((o2 x).1 hx).1⟩
    cases hc:t'.idx.contains i with
    | false=>rfl
    | true=>exact absurd ((o2 i).1 (List.contains_iff_mem.1 hc)).1 h2'
   ·simp only[Plan.idx,List.mem_cons,o2]
    constructor
    ·rintro (h|⟨h,h'⟩)
     ·exact⟨Or.inl h,fun e2=>e (e2.symm.trans h)⟩
     exact⟨Or.inr h,h'⟩
    rintro⟨h|h,h'⟩
    ·exact Or.inl h
    exact Or.inr ⟨h,h'⟩
   have h0:bD P ops R Q C effs pures i (bD P ops R Q C effs pures j (bf P ops R Q C effs pures t')) a w:=jU o4 h;exact qp hoi hoj (hp i oi hoi) (hp j oj hoj) hcm (hpe i oi hoi) (hpe j oj hoj) h0
 | fork i s k t ihs iht =>
   intro hok hlt hj hw
   simp only[xR,Bool.and_eq_true,Bool.not_eq_true',List.all_eq_true,beq_iff_eq] at hok
   obtain⟨⟨⟨⟨⟨⟨⟨h1,h2⟩,h3⟩,h4⟩,h5⟩,h6⟩,h7⟩,h8⟩:=hok;have h3':i∉s.idx:=fun hm=>by rw[List.contains_iff_mem.2 hm] at h3;cases h3
   have h4':k∉t.idx:=fun hm=>by rw[List.contains_iff_mem.2 hm] at h4;cases h4
   have sub1:∀ x,x∈i::s.idx->x∈k::t.idx:=fun x hx=>List.contains_iff_mem.1 (h6 x hx)
   have sub2:∀ x,x∈k::t.idx->x∈i::s.idx:=fun x hx=>List.contains_iff_mem.1 (h7 x hx)
   have shape:∀ (j:Nat) (l:List Nat),j∉l->∀ x,x∈l↔x∈j::l/\x≠j:=fun j l hn x=>by
    simp only[List.mem_cons]
    constructor
    ·intro hi;exact⟨Or.inr hi,fun e=>hn (e▸hi)⟩
    rintro⟨hi|hi,hne⟩
    ·exact absurd hi hne
    exact hi
   by_cases e:j=i
   ·subst e;exact⟨s,h1,shape j s.idx h3',rfl,fun a w h=>h.1⟩
   by_cases e2:j=k
   ·subst e2;refine⟨t,h2,fun x=>(shape j t.idx h4' x).trans ⟨fun h=>⟨sub2 x h.1,h.2⟩,fun h=>⟨sub1 x h.1,h.2⟩⟩,by simp[Plan.idx];omega,fun a w h=>h.2⟩
   exfalso
   have hj':j∈s.idx:=by
    rcases List.mem_cons.1 hj with h|h
    ·exact absurd h e
    exact h
   have:=h8 j hj';rw[Bool.or_eq_true,Bool.or_eq_true,beq_iff_eq] at this;rcases this with (h|h)|h
   ·exact e2 h
   ·rw[hw i (by simp[Plan.idx]) (fun e3=>e e3.symm)] at h;cases h
   rw[hw k (sub2 k (by simp)) (fun e3=>e2 e3.symm)] at h;cases h
theorem rZ {t:Plan} (h:zI ops effs pures t=true):(∀ (j:Nat) o,ops[j]?=some o->iH o.op=true) /\
 (∀ (j:Nat) o,ops[j]?=some o->∀ e∈o.after,Region.binds .any e=true->e.on<j)/\(∀ (j:Nat) o,ops[j]?=some o->pures.contains j=true->effs.contains j=false) /\
 xR ops effs pures t=true/\t.idx.length=ops.size/\∀ i,i∈t.idx↔i<ops.size:=by
 unfold zI at h
 simp only[Bool.and_eq_true,List.all_eq_true,beq_iff_eq,decide_eq_true_eq] at h
 obtain⟨⟨⟨⟨⟨h1,h2⟩,h3⟩,h4⟩,h5⟩,h6⟩:=h;have lt:∀ (j:Nat) o,ops[j]?=some o->j<ops.size:=fun j o ho=>(Array.getElem?_eq_some_iff.1 ho).1
 refine⟨fun j o ho=>?_,fun j o ho e he hb=>?_,fun j o ho hp=>?_,h3,h4,fun i=>⟨h5 i,fun hi=>List.contains_iff_mem.1 (h6 i (List.mem_range.2 hi))⟩⟩
 ·obtain⟨hlt,rfl⟩:=Array.getElem?_eq_some_iff.1 ho;exact (Array.all_eq_true.1 h1) j hlt
 ·have:=h2 j (List.mem_range.2 (lt j o ho))
  simp only[ho,Option.map_some,Option.getD_some,Bool.and_eq_true] at this
  have h3:=this.1;rw[Array.all_eq_true_iff_forall_mem] at h3;have h4:=h3 e he
  simp only[hb,Bool.not_true,Bool.false_or,decide_eq_true_eq] at h4
  exact h4
 have:=h2 j (List.mem_range.2 (lt j o ho))
 simp only[ho,Option.map_some,Option.getD_some,Bool.and_eq_true,hp,Bool.not_true,Bool.false_or,Bool.not_eq_true'] at this
 exact this.2.2
theorem jo (hp:∀ (j:Nat) o,ops[j]?=some o->iH o.op=true) (hback:∀ (j:Nat) o,ops[j]?=some o->∀ e∈o.after,Region.binds .any e=true->e.on<j)
 (hpe:∀ (j:Nat) o,ops[j]?=some o->pures.contains j=true->effs.contains j=false):∀ (fuel:Nat) (t:Plan) (listed:Array Bool) (a:Act) (w:World),listed.size=ops.size->xR ops effs pures t=true->t.idx.length=fuel ->
 (∀ i,i∈t.idx↔i<ops.size/\listed.getD i true=false)->Closed ops listed ->
 C w->bf P ops R Q C effs pures t a w->wpAny P .any ops (Fall R Q) fuel listed a w:=by
 intro fuel
 induction fuel with
 | zero =>
   intro t listed a w hsz hok hf hmem hc hcw h;have ht:t=.leaf:=by
    cases t with
    | leaf=>rfl
    | step i t=>simp[Plan.idx] at hf
    | fork i s k t=>simp[Plan.idx] at hf
   subst ht;refine⟨?_,h⟩
   cases hr:Region.ready .any ops listed with
   | nil=>rfl
   | cons i l =>
     obtain⟨h1,o,ho,_⟩:=mem_ready.1 (by rw[hr];simp:i∈Region.ready .any ops listed);have:=(hmem i).2 ⟨(Array.getElem?_eq_some_iff.1 ho).1,h1⟩
     cases this
 | succ fuel ih =>
   intro t listed a w hsz hok hf hmem hc hcw h
   -- something is left,so something may come up: the first of what is left
   have first:Region.ready .any ops listed≠[]:=by
    intro hr;have hne:rest ops.size listed≠[]:=by
     intro he;obtain⟨i,hi⟩:∃ i,i∈t.idx:=by
      cases hx:t.idx with
      | nil=>rw[hx] at hf;cases hf
      | cons i l=>exact⟨i,by simp⟩
     have h2:=(hmem i).1 hi;have:i∈rest ops.size listed:=by simp[rest];exact⟨h2.1,by simpa using h2.2⟩
     rw[he] at this;cases this
    have mem_rest:∀ i,i∈rest ops.size listed↔i<ops.size/\listed.getD i true=false:=by
     intro i;simp[rest]
    cases hl:rest ops.size listed with
    | nil=>exact hne hl
    | cons i l =>
      have hi:=(mem_rest i).1 (by rw[hl];simp);have hsorted:(rest ops.size listed).Pairwise (·<·):=List.Pairwise.filter _ List.pairwise_lt_range;rw[hl] at hsorted;have hmin:∀ k,k<i->listed.getD k false=true:=by
       intro k hk;have hks:k<ops.size:=Nat.lt_trans hk hi.1;by_cases hx:listed.getD k true=false
       ·have:k∈rest ops.size listed:=(mem_rest k).2 ⟨hks,hx⟩;rw[hl] at this;rcases List.mem_cons.1 this with e|e
        ·omega
        have:=(List.pairwise_cons.1 hsorted).1 k e;omega
       have hks':k<listed.size:=by omega
       simp[hks'] at hx ⊢;exact hx
      have:i∈Region.ready .any ops listed:=by
       obtain⟨o,ho⟩:∃ o,ops[i]?=some o:=⟨_,Array.getElem?_eq_getElem hi.1⟩;exact mem_ready.2 ⟨hi.2,o,ho,fun e he hb=>hmin e.on (hback i o ho e he hb)⟩
      rw[hr] at this;cases this
   refine⟨fun h0=>absurd h0 first,fun j hj=>?_⟩;obtain⟨hjun,oj,hoj,hall⟩:=mem_ready.1 hj;have hjs:j<ops.size:=(Array.getElem?_eq_some_iff.1 hoj).1;have hjm:j∈t.idx:=(hmem j).2 ⟨hjs,hjun⟩;obtain⟨t',o1,o2,o3,o4⟩:=pull (P:=P) (Q:=Q) (R:=R) (C:=C) hp hpe t hok (fun i hi=>((hmem i).1 hi).1) hjm (fun i hi hne=>by
    cases hwt:waits ops 12 j i with
    | false=>rfl
    | true =>
      exfalso
      have:=lJ hc 12 j i hwt (fun o ho e he hb=>by rw[hoj] at ho;cases ho;exact hall e he hb);have hir:=(hmem i).1 hi;have his:i<listed.size:=by omega
      have h2:=hir.2;simp[his] at this h2;rw[this] at h2;cases h2)
   have hjl:j<listed.size:=by omega
   have hclosed:Closed ops (listed.setIfInBounds j true):=by
    intro k o ho hk e he hb;by_cases e1:k=j
    ·subst e1;rw[hoj] at ho;cases ho;exact getD_set_true (hall e he hb)
    rw[getD_set_ne false (Ne.symm e1)] at hk;exact getD_set_true (hc k o ho hk e he hb)
   refine wpOp_mono (fun a' w' hx=>?_) (jV hcw (o4 a w h));refine ih t' (listed.setIfInBounds j true) a' w' (by simp[hsz]) o1 (by omega) (fun i=>?_) hclosed hx.1 hx.2;rw[o2,hmem];by_cases e:i=j
   ·subst e;simp[hjl]
   rw[getD_set_ne true (Ne.symm e)];simp[e]
theorem aX {id:Nat} {l:List Oper} {a:Act} {w:World} (effs pures:List Nat) (t:Plan) (R:List PanicEntry->List Deferred->World->Prop) (hm:P.follows .mixedOrders=true) (hR:∀ c a w,R c a.defers w->Q (.panic c) a w) (hB:zI l.toArray effs pures t=true) (hC:C w.drew) (h:bf P l.toArray R Q C effs pures t a w.drew):(Code.region id l.toArray true).wp P Q a w:=by
 obtain⟨b1,b2,b3,b4,b5,b6⟩:=rZ hB;have h1:(Code.region id l.toArray true).wp P (Fall R Q) a w:=by
  refine wp_region_any hm (jo (effs:=effs) (pures:=pures) (Q:=Q) (R:=R) b1 b2 b3 l.toArray.size t (Array.replicate l.toArray.size false) a w.drew (by simp) b4 b5 (fun i=>?_) ?_ hC h)
  ·rw[b6]
   constructor
   ·intro hi;refine⟨hi,?_⟩;simp at hi;simp[hi]
   intro hi;exact hi.1
  intro k o ho hk;have hks:k<l.toArray.size:=(Array.getElem?_eq_some_iff.1 ho).1
  simp at hks
  simp[hks] at hk
 exact wp_mono h1 (fun e a w hq=>hq.imp hR)
variable {l:List Oper}
theorem bH {a:Act} {w:World} (h:Q .normal a w):bf P l.toArray R Q C effs pures .leaf a w:=h
theorem lQ {i k:Nat} {s t:Plan} {a:Act} {w:World} (h1:bf P l.toArray R Q C effs pures (.step i s) a w) (h2:bf P l.toArray R Q C effs pures (.step k t) a w) :
 bf P l.toArray R Q C effs pures (.fork i s k t) a w:=⟨h1,h2⟩
def o6 (l:List Oper) (effs pures is:List Nat):Bool:=is.all (fun i=>!effs.contains i&&!pures.contains i&&(nth l i).isSome)
def tX (l:List Oper) (effs pures is:List Nat):Bool:=is.all (fun i=>!effs.contains i&&pures.contains i&&(nth l i).any (fun o=>Keep.iY o.op))
theorem aC:∀ (is:List Nat) {t:Plan} {a:Act} {w:World},o6 l effs pures is=true ->
 wpQuiet P l.toArray (fun w'=>w'=w) (fun a'=>bf P l.toArray R Q C effs pures t a' w) (ay l is) a->bf P l.toArray R Q C effs pures (.steps is t) a w
 | [],_,_,_,_,h=>h
 | i::is,t,a,w,hn,h=>by
   unfold o6 at hn
   simp only[List.all_cons,Bool.and_eq_true,Bool.not_eq_true'] at hn
   obtain⟨o,ho⟩:=Option.isSome_iff_exists.1 hn.1.2;have h0:l.toArray[i]?=some o:=by rw[nC] at ho;simpa using ho
   unfold ay at h;rw[ho] at h;have hq:qOp P l.toArray (fun w'=>w'=w) i (wpQuiet P l.toArray (fun w'=>w'=w) (fun a'=>bf P l.toArray R Q C effs pures t a' w) (ay l is)) a:=by
    unfold qOp;simp only[h0];exact h
   obtain⟨v,hy,hK⟩:=yieldsIn_of_qOp h0 hq
   show bD P l.toArray R Q C effs pures i (bf P l.toArray R Q C effs pures (.steps is t)) a w
   unfold bD
   simp only[h0,hn.1.1.1,hn.1.1.2,Bool.false_eq_true,if_false]
   exact⟨v,hy,aC is (by unfold o6;exact hn.2) hK⟩
theorem bM:∀ (is:List Nat) {t:Plan} {a:Act} {w:World},tX l effs pures is=true ->
 wpQuiet P l.toArray C (fun a'=>bf P l.toArray R Q C effs pures t a' w) (ay l is) a->bf P l.toArray R Q C effs pures (.steps is t) a w
 | [],_,_,_,_,h=>h
 | i::is,t,a,w,hn,h=>by
   unfold tX at hn
   simp only[List.all_cons,Bool.and_eq_true,Bool.not_eq_true'] at hn
   have ho:∃ o,nth l i=some o/\Keep.iY o.op=true:=by
    have h2:=hn.1.2
    cases hx:nth l i with
    | none=>rw[hx] at h2;cases h2
    | some o=>rw[hx] at h2;exact⟨o,rfl,h2⟩
   obtain⟨o,ho,hs⟩:=ho;have h0:l.toArray[i]?=some o:=by rw[nC] at ho;simpa using ho
   unfold ay at h;rw[ho] at h;have hq:qOp P l.toArray C i (wpQuiet P l.toArray C (fun a'=>bf P l.toArray R Q C effs pures t a' w) (ay l is)) a:=by
    unfold qOp;simp only[h0];exact h
   obtain⟨v,hy,hK⟩:=yieldsIn_of_qOp h0 hq
   show bD P l.toArray R Q C effs pures i (bf P l.toArray R Q C effs pures (.steps is t)) a w
   unfold bD
   simp only[h0,hn.1.1.1,hn.1.1.2,Bool.false_eq_true,if_false,if_true]
   refine⟨v,?_,bM is (by unfold tX;exact hn.2) hK⟩;rcases hy with ⟨hw,hv⟩|⟨hw,hv⟩
   ·refine .inl ⟨hw,fun w' hw'=>?_⟩;have h1:=hv w' hw';unfold Oper.quietAt at h1
    cases hr:(execOp a.eval o).run P w' with
    | halt x w1=>rw[hr] at h1;exact h1.elim
    | ok n w1 =>
      obtain⟨u,rfl⟩:=Keep.oZ hs w' n w1 hr;rw[hr] at h1;obtain⟨e1,e2⟩:=h1;rw[e1,e2]
   exact .inr ⟨hw,hv⟩
def yu (P:Program) (K:Act->World->Prop) (Q:Exit->Act->World->Prop):List Oper->Act->World->Prop
 | [o],a,w=>o.wp P a w K Q
 | _,_,_=>False
theorem aA {K:Act->World->Prop} {Q:Exit->Act->World->Prop} {o:Oper} {a:Act} {w:World} (h:o.wp P a w K Q):yu P K Q [o] a w:=h
theorem aK {k:Nat} {t:Plan} {a:Act} {w:World} (he:effs.contains k=true) (hg:(nth l k).all (fun o=>o.guard.isNone)=true)
 (h:∀ K:Act->World->Prop,(∀ a w,C w->bf P l.toArray R Q C effs pures t a w->K a w)->yu P K (Fall R Q) (ay l [k]) a w):bf P l.toArray R Q C effs pures (.step k t) a w:=by
 show bD P l.toArray R Q C effs pures k (bf P l.toArray R Q C effs pures t) a w
 cases hx:nth l k with
 | none =>
   have:=h (fun a w=>C w/\bf P l.toArray R Q C effs pures t a w) (fun a w hc ht=>⟨hc,ht⟩);unfold ay at this;rw[hx] at this;exact this.elim
 | some o =>
   have h0:l.toArray[k]?=some o:=by rw[nC] at hx;simpa using hx
   unfold bD
   simp only[h0,he,if_true]
   unfold wpOp
   simp only[h0]
   rw[hx] at hg;rw[if_pos (by
    have:o.guard=none:=by simpa using hg
    simp[Region.wanted,this])]
   refine Or.inl ?_;have:=h (fun a w=>C w/\bf P l.toArray R Q C effs pures t a w) (fun a w hc ht=>⟨hc,ht⟩);unfold ay at this;rw[hx] at this;exact this
end
end Go.Bw.Fall
namespace Go.Bw
open Go.RowKit Go.Maps Go.ChangeMaps
def PI (v:Value):Option (DataW Value×List MemPlace):=some (.held v,[])
def ny (j:Nat):Lit:=.int .i64 (j:Int)
theorem Ah {i j:Nat} (h:i≠j):ny i≠ny j:=by
 unfold ny;intro e;injection e with _ e2;omega
theorem CO (j:Nat):WideAt.IsKeyLit (ny j):=trivial
theorem Iy {j:Nat} (hj:j<9223372036854775808):(ny j).wf=true:=by
 unfold ny;have m1:IntKind.min .i64=-9223372036854775808:=rfl;have m2:IntKind.max .i64=9223372036854775807:=rfl;have h1:IntKind.min .i64<=(j:Int):=by rw[m1];omega
 have h2:(j:Int)<=IntKind.max .i64:=by rw[m2];omega
 simp only[Lit.wf,decide_eq_true h1,decide_eq_true h2];rfl
def lack (D:DataW Value) (L:Nat):Nat:=(List.range L).countP (fun j=>!has D (ny j))
theorem uZ {p q:Nat->Bool}:∀ {L k:Nat},k<L->p k=true->q k=false->(∀ j,j≠k->q j=p j)->(List.range L).countP q+1=(List.range L).countP p
 | 0,_,h,_,_,_=>by omega
 | L+1,k,h,h1,h2,h3=>by
   rw[List.range_succ,List.countP_append,List.countP_append]
   simp only[List.countP_cons,List.countP_nil]
   by_cases e:k=L
   ·subst e;have:(List.range k).countP q=(List.range k).countP p:=List.countP_congr (fun j hj=>by rw[h3 j (by have:=List.mem_range.1 hj;omega)]);rw[this,h1,h2];simp
   have:=uZ (p:=p) (q:=q) (show k<L by omega) h1 h2 h3;rw[h3 L (fun e2=>e e2.symm)];omega
structure MapAt (w:World) (P:Program) (k:TypeId) (b L:Nat) (g:Nat->Value):Prop where
 ex:∃ n D,w.ownsMap P k PI b n D/\n+lack D L<=L/\∀ j,j<L->has D (ny j)=true->∀ z,D.atKey (ny j) z=.held (g j)
structure jq (w:World) (P:Program) (k:TypeId) (b L:Nat) (g:Nat->Value) (j:Nat):Prop where
 ex:∃ n D,w.ownsMap P k PI b n D/\n+lack D L<=L/\(∀ j,j<L->has D (ny j)=true->∀ z,D.atKey (ny j) z=.held (g j))/\has D (ny j)=false
def wH (w:World) (P:Program) (t k:TypeId) (b L:Nat) (g:Nat->Value) (j st:Nat):Prop :=
 ∃ es clock,w.heap[b]?=some (.map es clock)/\∀ w2:World,w2.heap[b]?=some (.map es clock)->∃ w3,(Instr.entryStore t (.map (some b)) (goInt st) (g j)).run P w2=.ok () w3/\MapAt w3 P k b L g/\Mod (fun i=>i=b) w2 w3
variable {w w':World} {P:Program} {t k e:TypeId} {b L j:Nat} {g:Nat->Value}
theorem vS {n:Nat} {D:DataW Value} {S:Nat->Prop} (h:w.ownsMap P k PI b n D) (hm:Mod S w w') (hS:¬ S b):w'.ownsMap P k PI b n D:=by
 obtain⟨es,clock,hb,F,hs,hD⟩:=h;exact⟨es,clock,hm.heap hb hS,F,hs,hD⟩
theorem MapAt.mod {S:Nat->Prop} (h:MapAt w P k b L g) (hm:Mod S w w') (hS:¬ S b):MapAt w' P k b L g:=by
 obtain⟨n,D,h1,h2,h3⟩:=h.ex;exact⟨n,D,vS h1 hm hS,h2,h3⟩
theorem jq.mod {S:Nat->Prop} (h:jq w P k b L g j) (hm:Mod S w w') (hS:¬ S b):jq w' P k b L g j:=by
 obtain⟨n,D,h1,h2,h3⟩:=h.ex;exact⟨n,D,vS h1 hm hS,h2,h3⟩
theorem wH.mod {S:Nat->Prop} {st:Nat} (h:wH w P t k b L g j st) (hm:Mod S w w') (hS:¬ S b):wH w' P t k b L g j st:=by
 obtain⟨es,clock,hb,h2⟩:=h;exact⟨es,clock,hm.heap hb hS,h2⟩
theorem jq.at_ (h:jq w P k b L g j):MapAt w P k b L g:=by
 obtain⟨n,D,h1,h2,h3,_⟩:=h.ex;exact⟨n,D,h1,h2,h3⟩
theorem MapAt.blind (h:MapAt w P k b L g) (o:Nat):w.cell? ⟨b,o,none⟩=none:=by
 obtain⟨n,D,⟨es,clock,hb,_⟩,_⟩:=h.ex;simp[World.cell?,hb]
theorem MapAt.lt (h:MapAt w P k b L g):b<w.heap.size:=by
 obtain⟨n,D,h1,_⟩:=h.ex;exact h1.lt
theorem MapAt.new (w:World) (P:Program) (k:TypeId) (L:Nat) (g:Nat->Value):MapAt (w.alloc (.map #[] 0)) P k w.heap.size L g:=by
 refine⟨0,.map [],World.ownsMap_made w P k PI,?_,fun j hj h=>?_⟩
 ·unfold lack;rw[Nat.zero_add];have:=List.countP_le_length (p:=fun j=>!has (DataW.map []:DataW Value) (ny j)) (l:=List.range L)
  simpa using this
 simp[has] at h
theorem MapAt.look (h:MapAt w P k b L g) (hk:P.underlying k=some (.int .i64)) (ht:P.underlying t=some (.map k e)) {z:Value} (hz:(zeroValue e).run P w=.ok z w) (hj:j<L) (hL:L<9223372036854775808) :
 ((Instr.lookup t (.map (some b)) (.int .i64 (j:Int)) true).run P w=.ok (.tuple #[g j,.bool true]) w) \/
 ((Instr.lookup t (.map (some b)) (.int .i64 (j:Int)) true).run P w=.ok (.tuple #[z,.bool false]) w/\jq w P k b L g j):=by
 obtain⟨n,D,h1,h2,h3⟩:=h.ex;have hkey:keyOf P k (.int .i64 (j:Int))=some (ny j):=keyOf_int_mk hk (Iy (by omega));obtain⟨v,ps,hrun,hv⟩:=h1.look_ok (t:=t) (e:=e) (Maps.int_keyed hk) ht hz (zd:=.held z) (zp:=[]) rfl hkey
 cases hh:has D (ny j) with
 | true =>
   rw[h3 j hj hh] at hv;have:v=g j:=by simp[PI] at hv;exact hv.1
   subst this;rw[hh] at hrun;exact Or.inl hrun
 | false =>
   rw[atKey_of_not_has hh] at hv;have:v=z:=by simp[PI] at hv;exact hv.1
   subst this;rw[hh] at hrun;exact Or.inr ⟨hrun,⟨n,D,h1,h2,h3,hh⟩⟩
theorem jq.enter (h:jq w P k b L g j) (hk:P.underlying k=some (.int .i64)) (ht:P.underlying t=some (.map k e)) {z:Value} (hz:∀ u:World,(zeroValue e).run P u=.ok z u) (hj:j<L) (hL:L<140737488355328) :
 ∃ (v:Value) (st:Nat) (w1:World),(Instr.mapEntry t (.map (some b)) (.int .i64 (j:Int))).run P w=.ok (.tuple #[v,goInt st]) w1/\Mod (fun i=>i=b) w w1/\wH w1 P t k b L g j st:=by
 obtain⟨n,D,h1,h2,h3,hh⟩:=h.ex;have hkey:keyOf P k (.int .i64 (j:Int))=some (ny j):=keyOf_int_mk hk (Iy (by omega));have hcnt:∀ d,lack (D.put (ny j) d) L+1=lack D L:=fun d=>uZ (p:=fun i=>!has D (ny i)) (q:=fun i=>!has (D.put (ny j) d) (ny i)) hj (by rw[hh];rfl) (by rw[has_put_same h1.isMap (CO j)];rfl) (fun i hi=>by rw[has_put_other (Ah hi)])
 have hisMap:=h1.isMap;obtain⟨es,clock,hb,F,hs,hD⟩:=h1;have modSet:∀ (u:World) (es':Array MapEntry) (c':Nat) (es0:Array MapEntry) (c0:Nat),u.heap[b]?=some (.map es0 c0)->Mod (fun i=>i=b) u (setBlock u b (.map es' c')):=fun u es' c' es0 c0 hu =>
  ⟨rfl,rfl,rfl,by simp[setBlock],fun i _ hi=>heap_setBlock_other hu _ hi⟩
 have K:=Maps.int_keyed (P:=P) hk;have hown:w.ownsMap P k PI b n D:=⟨es,clock,hb,F,hs,hD⟩;rcases K.find w hkey es.toList F.keys with ⟨h1,_⟩|⟨i,e0,h1,_,_⟩
 case inr =>
  obtain⟨v,ps,hrun,hv⟩:=hown.look_ok (t:=t) (e:=e) K ht (hz w) (zd:=.held z) (zp:=[]) rfl hkey;rw[hh] at hrun;simp[Instr.lookup,run_underlying ht,MapKept.run_getObj_map hb,K.check w _ hkey,h1,Result.andThen] at hrun
 obtain⟨s1,s2,_⟩:=F.stamped;refine⟨z,clock,setBlock w b (.map (es.push ⟨.int .i64 (j:Int),z,clock⟩) (clock+1)),?_,modSet _ _ _ _ _ hb,_,_,heap_setBlock_same hb _,fun w2 hw2=>?_⟩
 ·simp[Instr.mapEntry,run_underlying ht,MapKept.run_getObj_map hb,K.check w false hkey,h1,hz,MapKept.run_setObj_map _ hb,Result.andThen,setBlock]
 have hidx:(es.push ⟨.int .i64 (j:Int),z,clock⟩).findIdx? (fun e=>((e.born:Nat):Int)==((clock:Nat):Int))=some es.size:=by
  rw[Array.findIdx?_eq_some_iff_getElem];refine⟨by simp,by simp,fun i hi=>?_⟩;have hi':i<es.size:=hi;rw[Array.getElem_push_lt hi'];have:=s1 es[i] (by simp);simp;omega
 have hmod:(es.push ⟨.int .i64 (j:Int),z,clock⟩).modify es.size (fun e=>{ e with val:=g j })=es.push ⟨.int .i64 (j:Int),g j,clock⟩:=by
  apply Array.ext_getElem?
  intro i;rw[Array.getElem?_modify,Array.getElem?_push,Array.getElem?_push];by_cases e1:es.size=i
  ·subst e1;simp
  have e2:¬ i=es.size:=fun e=>e1 e.symm
  simp[e1,e2]
 obtain⟨w',u1,u2,u3⟩:=hown.update (t:=t) (e:=e) K ht (by unfold maxLen;omega) hkey (val:=g j) (d:=.held (g j)) (ps:=[]) rfl;have u0:(Instr.mapUpdate t (.map (some b)) (.int .i64 (j:Int)) (g j)).run P w=.ok () (setBlock w b (.map (es.push ⟨.int .i64 (j:Int),g j,clock⟩) (clock+1))):=by
  simp[Instr.mapUpdate,run_underlying ht,MapKept.run_getObj_map hb,K.check w false hkey,h1,MapKept.run_setObj_map _ hb,Result.andThen,setBlock]
 rw[u0] at u1;have hw':setBlock w b (.map (es.push ⟨.int .i64 (j:Int),g j,clock⟩) (clock+1))=w':=by simpa using u1
 subst hw';obtain⟨es2,c2,v1,v2,v3,v4⟩:=u2;rw[heap_setBlock_same hb] at v1;have ev:es2=es.push ⟨.int .i64 (j:Int),g j,clock⟩/\c2=clock+1:=by simp only[Option.some.injEq,Obj.map.injEq] at v1;exact⟨v1.1.symm,v1.2.symm⟩
 obtain⟨rfl,rfl⟩:=ev;refine⟨setBlock w2 b (.map (es.push ⟨.int .i64 (j:Int),g j,clock⟩) (clock+1)),?_,⟨n+1,D.put (ny j) (.held (g j)),⟨_,_,heap_setBlock_same hw2 _,v2,v3,v4⟩,?_,fun i hi hhi z=>?_⟩,modSet _ _ _ _ _ hw2⟩
 ·simp[Instr.entryStore,MapKept.run_getObj_map hw2,asInt,asIntOf,goInt,hidx,hmod,MapKept.run_setObj_map _ hw2,Result.andThen,setBlock]
 ·have:=hcnt (.held (g j));omega
 by_cases e:i=j
 ·subst e;exact atKey_put_same hisMap (CO i) _ _
 rw[atKey_put_other (Ah e)];rw[has_put_other (Ah e)] at hhi;exact h3 i hi hhi z
end Go.Bw
namespace Go.Bw.aI
open Go.Bw Go.Bw.Keep Go.Bw.Fall
def zo (ops:Array Oper) (pures:List Nat) (j:Nat):Bool:=pures.any (fun i=>i != j&&!waits ops 12 j i)
section
variable {P:Program} {ops:Array Oper} {Q:Exit->Act->World->Prop} {effs pures:List Nat} {C:World->Prop} {R:List PanicEntry->List Deferred->World->Prop}
def bD (P:Program) (ops:Array Oper) (R:List PanicEntry->List Deferred->World->Prop) (Q:Exit->Act->World->Prop) (C:World->Prop) (effs pures:List Nat) (i:Nat) (K:Act->World->Prop) (a:Act) (w:World):Prop :=
 match ops[i]? with
 | none=>K a w
 | some o =>
   if effs.contains i then wpOp P ops (Fall R Q) i (fun a w=>(zo ops pures i=true->C w)/\K a w) a w
   else if pures.contains i then ∃ v,YieldsIf P ops C o v a/\K (a.put o.dst v) w
   else ∃ v,YieldsIn P ops (fun w'=>w'=w) o v a/\K (a.put o.dst v) w
theorem jU {i:Nat} {K K':Act->World->Prop} (h:∀ a w,K a w->K' a w) {a:Act} {w:World} (hh:bD P ops R Q C effs pures i K a w):bD P ops R Q C effs pures i K' a w:=by
 unfold bD at *
 split
 ·rename_i ho;simp only[ho] at hh;exact h _ _ hh
 rename_i o ho
 simp only[ho] at hh
 split
 ·rename_i he;rw[if_pos he] at hh;exact wpOp_mono (fun a w hx=>⟨hx.1,h _ _ hx.2⟩) hh
 rename_i he;rw[if_neg he] at hh
 split
 ·rename_i hp;rw[if_pos hp] at hh;obtain⟨v,h1,h2⟩:=hh;exact⟨v,h1,h _ _ h2⟩
 rename_i hp;rw[if_neg hp] at hh;obtain⟨v,h1,h2⟩:=hh;exact⟨v,h1,h _ _ h2⟩
theorem jV {i:Nat} {K:Act->World->Prop} {a:Act} {w:World} (hw:pures.contains i=true->C w) (hh:bD P ops R Q C effs pures i K a w):wpOp P ops (Fall R Q) i (fun a' w'=>((zo ops pures i=true->C w')\/w'=w)/\K a' w') a w:=by
 unfold bD at hh
 split at hh
 ·rename_i ho;unfold wpOp;simp only[ho];exact⟨Or.inr trivial,hh⟩
 rename_i o ho
 split at hh
 ·exact wpOp_mono (fun a w hx=>⟨Or.inl hx.1,hx.2⟩) hh
 split at hh
 ·rename_i hp;obtain⟨v,h1,h2⟩:=hh;exact h1.wpOp (S:=C) ho (hw hp) ⟨Or.inr rfl,h2⟩
 obtain⟨v,h1,h2⟩:=hh;exact wpOp_of_qOp (C:=fun w'=>w'=w) (K:=fun a'=>a'=a.put o.dst v) rfl (fun a' w' e h=>by subst e;subst h;exact⟨Or.inr rfl,h2⟩) (h1.qOp ho rfl)
theorem qp {i j:Nat} {oi oj:Oper} (hi:ops[i]?=some oi) (hj:ops[j]?=some oj) (hpi:iH oi.op=true) (hpj:iH oj.op=true) (hc:rq ops effs pures i j=true) (hei:pures.contains i=true->effs.contains i=false) (hej:pures.contains j=true->effs.contains j=false)
 {K:Act->World->Prop} {a:Act} {w:World} (h:bD P ops R Q C effs pures i (bD P ops R Q C effs pures j K) a w):bD P ops R Q C effs pures j (bD P ops R Q C effs pures i K) a w:=by
 unfold rq at hc
 simp only[hi,hj,Bool.and_eq_true,Bool.or_eq_true,Bool.not_eq_true'] at hc
 obtain⟨⟨⟨apij,apji⟩,ei'⟩,hk⟩:=hc;obtain⟨h1,h2,h3⟩:=Oper.apart_spec apij;have hsi:=jd hpi;have hsj:=jd hpj;unfold bD at h ⊢
 simp only[hi,hj] at h ⊢
 by_cases ej:effs.contains j=true
 ·-- j may do anything: i is pure
  have pj:pures.contains j=false:=by cases hp:pures.contains j;rfl;rw[hej hp] at ej;cases ej
  have pi:pures.contains i=true:=by
   rcases hk with hk|hk
   ·exact hk
   rw[hk] at ej;cases ej
  simp only[ej,ei',pi,if_true,Bool.false_eq_true,if_false] at h ⊢
  obtain⟨v,hv,hh⟩:=h;have:=wpOp_putIf (S:=C) hj apij hsi hsj (fun _ _ _ hq=>hq.Ol) hv hh;exact wpOp_mono (fun a' w' hx=>⟨hx.2.1,v,hx.1,hx.2.2⟩) this
 have ej':effs.contains j=false:=by simpa using ej
 skip
 simp only[ei',ej',Bool.false_eq_true,if_false] at h ⊢
 -- neither does anything to the world
 have key:∀ (Yi Yj:Value->Act->Prop),(∀ v (x:Act) d u,Yi v x->(∀ t,d=some t->t∉oi.looksAt ops)->Yi v (x.put d u))->(∀ v (x:Act) d u,Yj v (x.put d u)->(∀ t,d=some t->t∉oj.looksAt ops)->Yj v x) ->
  (∃ v,Yi v a/\∃ u,Yj u (a.put oi.dst v)/\K ((a.put oi.dst v).put oj.dst u) w)->∃ u,Yj u a/\∃ v,Yi v (a.put oj.dst u)/\K ((a.put oj.dst u).put oi.dst v) w:=by
  rintro Yi Yj ki kj ⟨v,hv,u,hu,hK⟩;exact⟨u,kj u a oi.dst v hu h1,v,ki v a oj.dst u hv h3,by rw[<-Act.put_comm a v u h2];exact hK⟩
 have pif:∀ (o:Oper) (hs:∀ cs b,o.op≠.select cs b) v (x:Act) d u,YieldsIf P ops C o v x->(∀ t,d=some t->t∉o.looksAt ops)->YieldsIf P ops C o v (x.put d u) :=
  fun o hs v x d u hy hd=>hy.of_same (execOp_put o hs x d u hd) (wanted_put o x d u hd)
 have pif':∀ (o:Oper) (hs:∀ cs b,o.op≠.select cs b) v (x:Act) d u,YieldsIf P ops C o v (x.put d u)->(∀ t,d=some t->t∉o.looksAt ops)->YieldsIf P ops C o v x :=
  fun o hs v x d u hy hd=>hy.of_same (execOp_put o hs x d u hd).symm (wanted_put o x d u hd).symm
 have pin:∀ (o:Oper) (hs:∀ cs b,o.op≠.select cs b) v (x:Act) d u,YieldsIn P ops (fun w'=>w'=w) o v x->(∀ t,d=some t->t∉o.looksAt ops)->YieldsIn P ops (fun w'=>w'=w) o v (x.put d u) :=
  fun o hs v x d u hy hd=>hy.of_same (execOp_put o hs x d u hd) (wanted_put o x d u hd)
 have pin':∀ (o:Oper) (hs:∀ cs b,o.op≠.select cs b) v (x:Act) d u,YieldsIn P ops (fun w'=>w'=w) o v (x.put d u)->(∀ t,d=some t->t∉o.looksAt ops)->YieldsIn P ops (fun w'=>w'=w) o v x :=
  fun o hs v x d u hy hd=>hy.of_same (execOp_put o hs x d u hd).symm (wanted_put o x d u hd).symm
 by_cases pi:pures.contains i=true <;> by_cases pj:pures.contains j=true
 ·simp only[pi,pj,if_true] at h ⊢
  exact key _ _ (pif oi hsi) (pif' oj hsj) h
 ·have pj':pures.contains j=false:=by simpa using pj
  simp only[pi,pj',if_true,Bool.false_eq_true,if_false] at h ⊢
  exact key _ _ (pif oi hsi) (pin' oj hsj) h
 ·have pi':pures.contains i=false:=by simpa using pi
  simp only[pi',pj,if_true,Bool.false_eq_true,if_false] at h ⊢
  exact key _ _ (pin oi hsi) (pif' oj hsj) h
 have pi':pures.contains i=false:=by simpa using pi
 have pj':pures.contains j=false:=by simpa using pj
 simp only[pi',pj',Bool.false_eq_true,if_false] at h ⊢
 exact key _ _ (pin oi hsi) (pin' oj hsj) h
def bf (P:Program) (ops:Array Oper) (R:List PanicEntry->List Deferred->World->Prop) (Q:Exit->Act->World->Prop) (C:World->Prop) (effs pures:List Nat):Plan->Act->World->Prop
 | .leaf,a,w=>Q .normal a w
 | .step i t,a,w=>bD P ops R Q C effs pures i (bf P ops R Q C effs pures t) a w
 | .fork i s k t,a,w=>bD P ops R Q C effs pures i (bf P ops R Q C effs pures s) a w/\bD P ops R Q C effs pures k (bf P ops R Q C effs pures t) a w
theorem pull {j:Nat} (hp:∀ (j:Nat) o,ops[j]?=some o->iH o.op=true) (hpe:∀ (j:Nat) o,ops[j]?=some o->pures.contains j=true->effs.contains j=false) :
 ∀ t:Plan,xR ops effs pures t=true->(∀ i∈t.idx,i<ops.size)->j∈t.idx->(∀ i∈t.idx,i≠j->waits ops 12 j i=false) ->
 ∃ t':Plan,xR ops effs pures t'=true/\(∀ i,i∈t'.idx↔i∈t.idx/\i≠j)/\t'.idx.length+1=t.idx.length /\
  ∀ a w,bf P ops R Q C effs pures t a w->bD P ops R Q C effs pures j (bf P ops R Q C effs pures t') a w:=by
 intro t
 induction t with
 | leaf=>intro _ _ hj;cases hj
 | step i t ih =>
   intro hok hlt hj hw
   simp only[xR,Bool.and_eq_true,Bool.not_eq_true',List.all_eq_true] at hok
   obtain⟨⟨h1,h2⟩,h3⟩:=hok;have h2':i∉t.idx:=fun hm=>by rw[List.contains_iff_mem.2 hm] at h2;cases h2
   by_cases e:j=i
   ·subst e;refine⟨t,h1,fun i=>?_,rfl,fun a w h=>h⟩
    simp only[Plan.idx,List.mem_cons]
    constructor
    ·intro hi;exact⟨Or.inr hi,fun e=>h2' (e▸hi)⟩
    rintro⟨hi|hi,hne⟩
    ·exact absurd hi hne
    exact hi
   have hj':j∈t.idx:=by
    rcases List.mem_cons.1 hj with h|h
    ·exact absurd h e
    exact h
   obtain⟨t',o1,o2,o3,o4⟩:=ih h1 (fun i hi=>hlt i (List.mem_cons_of_mem _ hi)) hj' (fun i hi=>hw i (List.mem_cons_of_mem _ hi));have hcm:rq ops effs pures i j=true:=by
    have:=h3 j hj';rw[Bool.or_eq_true] at this;rcases this with h|h
    ·exact h
    rw[hw i (by simp[Plan.idx]) (fun e2=>e e2.symm)] at h;cases h
   have hil:=hlt i (by simp[Plan.idx]);have hjl:=hlt j hj;obtain⟨oi,hoi⟩:∃ o,ops[i]?=some o:=⟨_,Array.getElem?_eq_getElem hil⟩;obtain⟨oj,hoj⟩:∃ o,ops[j]?=some o:=⟨_,Array.getElem?_eq_getElem hjl⟩;refine⟨.step i t',?_,fun x=>?_,by simp[Plan.idx];omega,fun a w h=>?_⟩
   ·simp only[xR,Bool.and_eq_true,Bool.not_eq_true',List.all_eq_true]
    refine⟨⟨o1,?_⟩,fun x hx=>h3 x ((o2 x).1 hx).1⟩
    cases hc:t'.idx.contains i with
    | false=>rfl
    | true=>exact absurd ((o2 i).1 (List.contains_iff_mem.1 hc)).1 h2'
   ·simp only[Plan.idx,List.mem_cons,o2]
    constructor
    ·rintro (h|⟨h,h'⟩)
     ·exact⟨Or.inl h,fun e2=>e (e2.symm.trans h)⟩
     exact⟨Or.inr h,h'⟩
    rintro⟨h|h,h'⟩
    ·exact Or.inl h
    exact Or.inr ⟨h,h'⟩
   have h0:bD P ops R Q C effs pures i (bD P ops R Q C effs pures j (bf P ops R Q C effs pures t')) a w:=jU o4 h;exact qp hoi hoj (hp i oi hoi) (hp j oj hoj) hcm (hpe i oi hoi) (hpe j oj hoj) h0
 | fork i s k t ihs iht =>
   intro hok hlt hj hw
   simp only[xR,Bool.and_eq_true,Bool.not_eq_true',List.all_eq_true,beq_iff_eq] at hok
   obtain⟨⟨⟨⟨⟨⟨⟨h1,h2⟩,h3⟩,h4⟩,h5⟩,h6⟩,h7⟩,h8⟩:=hok;have h3':i∉s.idx:=fun hm=>by rw[List.contains_iff_mem.2 hm] at h3;cases h3
   have h4':k∉t.idx:=fun hm=>by rw[List.contains_iff_mem.2 hm] at h4;cases h4
   have sub1:∀ x,x∈i::s.idx->x∈k::t.idx:=fun x hx=>List.contains_iff_mem.1 (h6 x hx)
   have sub2:∀ x,x∈k::t.idx->x∈i::s.idx:=fun x hx=>List.contains_iff_mem.1 (h7 x hx)
   have shape:∀ (j:Nat) (l:List Nat),j∉l->∀ x,x∈l↔x∈j::l/\x≠j:=fun j l hn x=>by
    simp only[List.mem_cons]
    constructor
    ·intro hi;exact⟨Or.inr hi,fun e=>hn (e▸hi)⟩
    rintro⟨hi|hi,hne⟩
    ·exact absurd hi hne
    exact hi
   by_cases e:j=i
   ·subst e;exact⟨s,h1,shape j s.idx h3',rfl,fun a w h=>h.1⟩
   by_cases e2:j=k
   ·subst e2;refine⟨t,h2,fun x=>(shape j t.idx h4' x).trans ⟨fun h=>⟨sub2 x h.1,h.2⟩,fun h=>⟨sub1 x h.1,h.2⟩⟩,by simp[Plan.idx];omega,fun a w h=>h.2⟩
   exfalso
   have hj':j∈s.idx:=by
    rcases List.mem_cons.1 hj with h|h
    ·exact absurd h e
    exact h
   have:=h8 j hj';rw[Bool.or_eq_true,Bool.or_eq_true,beq_iff_eq] at this;rcases this with (h|h)|h
   ·exact e2 h
   ·rw[hw i (by simp[Plan.idx]) (fun e3=>e e3.symm)] at h;cases h
   rw[hw k (sub2 k (by simp)) (fun e3=>e2 e3.symm)] at h;cases h
theorem jo (hp:∀ (j:Nat) o,ops[j]?=some o->iH o.op=true) (hback:∀ (j:Nat) o,ops[j]?=some o->∀ e∈o.after,Region.binds .any e=true->e.on<j)
 (hpe:∀ (j:Nat) o,ops[j]?=some o->pures.contains j=true->effs.contains j=false):∀ (fuel:Nat) (t:Plan) (listed:Array Bool) (a:Act) (w:World),listed.size=ops.size->xR ops effs pures t=true->t.idx.length=fuel ->
 (∀ i,i∈t.idx↔i<ops.size/\listed.getD i true=false)->Closed ops listed ->
 (∀ i,i∈t.idx->pures.contains i=true->C w)->bf P ops R Q C effs pures t a w->wpAny P .any ops (Fall R Q) fuel listed a w:=by
 intro fuel
 induction fuel with
 | zero =>
   intro t listed a w hsz hok hf hmem hc hcw h;have ht:t=.leaf:=by
    cases t with
    | leaf=>rfl
    | step i t=>simp[Plan.idx] at hf
    | fork i s k t=>simp[Plan.idx] at hf
   subst ht;refine⟨?_,h⟩
   cases hr:Region.ready .any ops listed with
   | nil=>rfl
   | cons i l =>
     obtain⟨h1,o,ho,_⟩:=mem_ready.1 (by rw[hr];simp:i∈Region.ready .any ops listed);have:=(hmem i).2 ⟨(Array.getElem?_eq_some_iff.1 ho).1,h1⟩
     cases this
 | succ fuel ih =>
   intro t listed a w hsz hok hf hmem hc hcw h
   -- something is left,so something may come up: the first of what is left
   have first:Region.ready .any ops listed≠[]:=by
    intro hr;have hne:rest ops.size listed≠[]:=by
     intro he;obtain⟨i,hi⟩:∃ i,i∈t.idx:=by
      cases hx:t.idx with
      | nil=>rw[hx] at hf;cases hf
      | cons i l=>exact⟨i,by simp⟩
     have h2:=(hmem i).1 hi;have:i∈rest ops.size listed:=by simp[rest];exact⟨h2.1,by simpa using h2.2⟩
     rw[he] at this;cases this
    have mem_rest:∀ i,i∈rest ops.size listed↔i<ops.size/\listed.getD i true=false:=by
     intro i;simp[rest]
    cases hl:rest ops.size listed with
    | nil=>exact hne hl
    | cons i l =>
      have hi:=(mem_rest i).1 (by rw[hl];simp);have hsorted:(rest ops.size listed).Pairwise (·<·):=List.Pairwise.filter _ List.pairwise_lt_range;rw[hl] at hsorted;have hmin:∀ k,k<i->listed.getD k false=true:=by
       intro k hk;have hks:k<ops.size:=Nat.lt_trans hk hi.1;by_cases hx:listed.getD k true=false
       ·have:k∈rest ops.size listed:=(mem_rest k).2 ⟨hks,hx⟩;rw[hl] at this;rcases List.mem_cons.1 this with e|e
        ·omega
        have:=(List.pairwise_cons.1 hsorted).1 k e;omega
       have hks':k<listed.size:=by omega
       simp[hks'] at hx ⊢;exact hx
      have:i∈Region.ready .any ops listed:=by
       obtain⟨o,ho⟩:∃ o,ops[i]?=some o:=⟨_,Array.getElem?_eq_getElem hi.1⟩;exact mem_ready.2 ⟨hi.2,o,ho,fun e he hb=>hmin e.on (hback i o ho e he hb)⟩
      rw[hr] at this;cases this
   refine⟨fun h0=>absurd h0 first,fun j hj=>?_⟩;obtain⟨hjun,oj,hoj,hall⟩:=mem_ready.1 hj;have hjs:j<ops.size:=(Array.getElem?_eq_some_iff.1 hoj).1;have hjm:j∈t.idx:=(hmem j).2 ⟨hjs,hjun⟩;have nowait:∀ i∈t.idx,i≠j->waits ops 12 j i=false:=(fun i hi hne=>by
    cases hwt:waits ops 12 j i with
    | false=>rfl
    | true =>
      exfalso
      have:=lJ hc 12 j i hwt (fun o ho e he hb=>by rw[hoj] at ho;cases ho;exact hall e he hb);have hir:=(hmem i).1 hi;have his:i<listed.size:=by omega
      have h2:=hir.2;simp[his] at this h2;rw[this] at h2;cases h2)
   obtain⟨t',o1,o2,o3,o4⟩:=pull (P:=P) (Q:=Q) (R:=R) (C:=C) hp hpe t hok (fun i hi=>((hmem i).1 hi).1) hjm nowait;have hjl:j<listed.size:=by omega
   have hclosed:Closed ops (listed.setIfInBounds j true):=by
    intro k o ho hk e he hb;by_cases e1:k=j
    ·subst e1;rw[hoj] at ho;cases ho;exact getD_set_true (hall e he hb)
    rw[getD_set_ne false (Ne.symm e1)] at hk;exact getD_set_true (hc k o ho hk e he hb)
   refine wpOp_mono (fun a' w' hx=>?_) (jV (hcw j hjm) (o4 a w h));have hcw':∀ i,i∈t'.idx->pures.contains i=true->C w':=fun i hi hp=>by
    have hit:=(o2 i).1 hi;rcases hx.1 with hC|rfl
    ·refine hC (List.any_eq_true.2 ⟨i,List.contains_iff_mem.1 hp,?_⟩);rw[Bool.and_eq_true];exact⟨by rw[bne_iff_ne];exact hit.2,by rw[nowait i hit.1 hit.2];rfl⟩
    exact hcw i hit.1 hp
   refine ih t' (listed.setIfInBounds j true) a' w' (by simp[hsz]) o1 (by omega) (fun i=>?_) hclosed hcw' hx.2;rw[o2,hmem];by_cases e:i=j
   ·subst e;simp[hjl]
   rw[getD_set_ne true (Ne.symm e)];simp[e]
theorem aX {id:Nat} {l:List Oper} {a:Act} {w:World} (effs pures:List Nat) (t:Plan) (R:List PanicEntry->List Deferred->World->Prop) (hm:P.follows .mixedOrders=true) (hR:∀ c a w,R c a.defers w->Q (.panic c) a w) (hB:zI l.toArray effs pures t=true) (hC:C w.drew) (h:bf P l.toArray R Q C effs pures t a w.drew):(Code.region id l.toArray true).wp P Q a w:=by
 obtain⟨b1,b2,b3,b4,b5,b6⟩:=rZ hB;have h1:(Code.region id l.toArray true).wp P (Fall R Q) a w:=by
  refine wp_region_any hm (jo (effs:=effs) (pures:=pures) (Q:=Q) (R:=R) b1 b2 b3 l.toArray.size t (Array.replicate l.toArray.size false) a w.drew (by simp) b4 b5 (fun i=>?_) ?_ (fun _ _ _=>hC) h)
  ·rw[b6]
   constructor
   ·intro hi;refine⟨hi,?_⟩;simp at hi;simp[hi]
   intro hi;exact hi.1
  intro k o ho hk;have hks:k<l.toArray.size:=(Array.getElem?_eq_some_iff.1 ho).1
  simp at hks
  simp[hks] at hk
 exact wp_mono h1 (fun e a w hq=>hq.imp hR)
theorem wz {id:Nat} {l:List Oper} {a:Act} {w:World} (effs pures:List Nat) (t:Plan) (hm:P.follows .mixedOrders=true) (hB:zI l.toArray effs pures t=true) (h:bf P l.toArray (fun _ _ _=>False) Q (fun _=>True) effs pures t a w.drew):(Code.region id l.toArray true).wp P Q a w :=
 aX (C:=fun _=>True) effs pures t (fun _ _ _=>False) hm (fun _ _ _ h=>h.elim) hB trivial h
variable {l:List Oper}
theorem bH {a:Act} {w:World} (h:Q .normal a w):bf P l.toArray R Q C effs pures .leaf a w:=h
theorem lQ {i k:Nat} {s t:Plan} {a:Act} {w:World} (h1:bf P l.toArray R Q C effs pures (.step i s) a w) (h2:bf P l.toArray R Q C effs pures (.step k t) a w) :
 bf P l.toArray R Q C effs pures (.fork i s k t) a w:=⟨h1,h2⟩
theorem aC:∀ (is:List Nat) {t:Plan} {a:Act} {w:World},o6 l effs pures is=true ->
 wpQuiet P l.toArray (fun w'=>w'=w) (fun a'=>bf P l.toArray R Q C effs pures t a' w) (ay l is) a->bf P l.toArray R Q C effs pures (.steps is t) a w
 | [],_,_,_,_,h=>h
 | i::is,t,a,w,hn,h=>by
   unfold o6 at hn
   simp only[List.all_cons,Bool.and_eq_true,Bool.not_eq_true'] at hn
   obtain⟨o,ho⟩:=Option.isSome_iff_exists.1 hn.1.2;have h0:l.toArray[i]?=some o:=by rw[nC] at ho;simpa using ho
   unfold ay at h;rw[ho] at h;have hq:qOp P l.toArray (fun w'=>w'=w) i (wpQuiet P l.toArray (fun w'=>w'=w) (fun a'=>bf P l.toArray R Q C effs pures t a' w) (ay l is)) a:=by
    unfold qOp;simp only[h0];exact h
   obtain⟨v,hy,hK⟩:=yieldsIn_of_qOp h0 hq
   show bD P l.toArray R Q C effs pures i (bf P l.toArray R Q C effs pures (.steps is t)) a w
   unfold bD
   simp only[h0,hn.1.1.1,hn.1.1.2,Bool.false_eq_true,if_false]
   exact⟨v,hy,aC is (by unfold o6;exact hn.2) hK⟩
theorem bM:∀ (is:List Nat) {t:Plan} {a:Act} {w:World},tX l effs pures is=true ->
 wpQuiet P l.toArray C (fun a'=>bf P l.toArray R Q C effs pures t a' w) (ay l is) a->bf P l.toArray R Q C effs pures (.steps is t) a w
 | [],_,_,_,_,h=>h
 | i::is,t,a,w,hn,h=>by
   unfold tX at hn
   simp only[List.all_cons,Bool.and_eq_true,Bool.not_eq_true'] at hn
   have ho:∃ o,nth l i=some o/\Keep.iY o.op=true:=by
    have h2:=hn.1.2
    cases hx:nth l i with
    | none=>rw[hx] at h2;cases h2
    | some o=>rw[hx] at h2;exact⟨o,rfl,h2⟩
   obtain⟨o,ho,hs⟩:=ho;have h0:l.toArray[i]?=some o:=by rw[nC] at ho;simpa using ho
   unfold ay at h;rw[ho] at h;have hq:qOp P l.toArray C i (wpQuiet P l.toArray C (fun a'=>bf P l.toArray R Q C effs pures t a' w) (ay l is)) a:=by
    unfold qOp;simp only[h0];exact h
   obtain⟨v,hy,hK⟩:=yieldsIn_of_qOp h0 hq
   show bD P l.toArray R Q C effs pures i (bf P l.toArray R Q C effs pures (.steps is t)) a w
   unfold bD
   simp only[h0,hn.1.1.1,hn.1.1.2,Bool.false_eq_true,if_false,if_true]
   refine⟨v,?_,bM is (by unfold tX;exact hn.2) hK⟩;rcases hy with ⟨hw,hv⟩|⟨hw,hv⟩
   ·refine .inl ⟨hw,fun w' hw'=>?_⟩;have h1:=hv w' hw';unfold Oper.quietAt at h1
    cases hr:(execOp a.eval o).run P w' with
    | halt x w1=>rw[hr] at h1;exact h1.elim
    | ok n w1 =>
      obtain⟨u,rfl⟩:=Keep.oZ hs w' n w1 hr;rw[hr] at h1;obtain⟨e1,e2⟩:=h1;rw[e1,e2]
   exact .inr ⟨hw,hv⟩
theorem aK {k:Nat} {t:Plan} {a:Act} {w:World} (he:effs.contains k=true) (hg:(nth l k).all (fun o=>o.guard.isNone)=true)
 (h:∀ K:Act->World->Prop,(∀ a w,(zo l.toArray pures k=true->C w)->bf P l.toArray R Q C effs pures t a w->K a w)->yu P K (Fall R Q) (ay l [k]) a w):bf P l.toArray R Q C effs pures (.step k t) a w:=by
 show bD P l.toArray R Q C effs pures k (bf P l.toArray R Q C effs pures t) a w
 cases hx:nth l k with
 | none =>
   have:=h (fun a w=>(zo l.toArray pures k=true->C w)/\bf P l.toArray R Q C effs pures t a w) (fun a w hc ht=>⟨hc,ht⟩);unfold ay at this;rw[hx] at this;exact this.elim
 | some o =>
   have h0:l.toArray[k]?=some o:=by rw[nC] at hx;simpa using hx
   unfold bD
   simp only[h0,he,if_true]
   unfold wpOp
   simp only[h0]
   rw[hx] at hg;rw[if_pos (by
    have:o.guard=none:=by simpa using hg
    simp[Region.wanted,this])]
   refine Or.inl ?_;have:=h (fun a w=>(zo l.toArray pures k=true->C w)/\bf P l.toArray R Q C effs pures t a w) (fun a w hc ht=>⟨hc,ht⟩);unfold ay at this;rw[hx] at this;exact this
theorem dm {k:Nat} {t:Plan} {a:Act} {w:World} (he:effs.contains k=true) (hg:(nth l k).all (fun o=>o.guard.isNone)=true) (hn:zo l.toArray pures k=false)
 (h:∀ K:Act->World->Prop,(∀ a w,bf P l.toArray R Q C effs pures t a w->K a w)->yu P K (Fall R Q) (ay l [k]) a w):bf P l.toArray R Q C effs pures (.step k t) a w :=
 aK he hg (fun K hK=>h K (fun a w ht=>hK a w (fun hc=>by rw[hn] at hc;cases hc) ht))
end
end Go.Bw.aI
