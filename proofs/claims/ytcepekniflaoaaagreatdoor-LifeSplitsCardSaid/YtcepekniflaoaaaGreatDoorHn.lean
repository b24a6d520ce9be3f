/- Joined: LifF, LifN. -/
import Derived.Test.YtcepekniflaoaaaGreatDoorHc
import Derived.Test.YtcepekniflaoaaaGreatDoorHp
import Derived.Test.YtcepekniflaoaaaGreatDoorHb
import Derived.Test.YtcepekniflaoaaaGreatDoorLifM
import Derived.Test.YtcepekniflaoaaaGreatDoorHk
set_option linter.unusedVariables false
set_option linter.unusedSimpArgs false
set_option maxRecDepth 100000
set_option maxHeartbeats 32000000
namespace Go.Bw
open Go.RowKit Classical
def mix {α:Type} (l m:List α) (k:Nat):List α:=m.take k++l.drop k
section
variable {α:Type} {l m:List α} {k:Nat}
theorem qB:mix l m 0=l:=by simp[mix]
theorem Ag (h:m.length=l.length) (hk:l.length<=k):mix l m k=m:=by unfold mix;rw[List.drop_eq_nil_of_le hk,List.append_nil,List.take_of_length_le (by omega)]
theorem oO (h:m.length=l.length):(mix l m k).length=l.length:=by unfold mix;rw[List.length_append,List.length_take,List.length_drop];omega
theorem xJ (h:m.length=l.length) (j:Nat):(mix l m k)[j]?=if j<k then m[j]? else l[j]?:=by
 unfold mix;by_cases hj:j<k
 ·rw[if_pos hj];by_cases hl:j<(m.take k).length
  ·rw[List.getElem?_append_left hl,List.getElem?_take_of_lt hj]
  rw[List.getElem?_append_right (by omega)];rw[List.length_take] at hl ⊢;rw[List.getElem?_drop,List.getElem?_eq_none (by omega),List.getElem?_eq_none (by omega)]
 rw[if_neg hj];by_cases hl:k<=m.length
 ·rw[List.getElem?_append_right (by rw[List.length_take];omega),List.length_take,List.getElem?_drop]
  congr 1;omega
 rw[List.getElem?_eq_none (by rw[List.length_append,List.length_take,List.length_drop];omega),List.getElem?_eq_none (by omega)]
theorem qx (h:m.length=l.length):(mix l m k)[k]?=l[k]?:=by rw[xJ h,if_neg (Nat.lt_irrefl _)]
theorem qy (h:m.length=l.length) {y:α} (hy:m[k]?=some y):mix l m (k+1)=(mix l m k).set k y:=by
 have hk:=(List.getElem?_eq_some_iff.1 hy).1
 apply List.ext_getElem?
 intro j;rw[xJ h,List.getElem?_set,xJ h];by_cases e:k=j
 ·subst e;rw[if_pos (by omega),if_pos rfl,if_pos (by rw[oO h];omega),hy]
 rw[if_neg e];by_cases hj:j<k
 ·rw[if_pos (by omega),if_pos hj]
 rw[if_neg (by omega),if_neg hj]
theorem qA (h:m.length=l.length) (hy:m[k]?=l[k]?):mix l m (k+1)=mix l m k:=by
 apply List.ext_getElem?
 intro j;rw[xJ h,xJ h];by_cases e:j=k
 ·subst e;rw[if_pos (by omega),if_neg (by omega),hy]
 by_cases hj:j<k
 ·rw[if_pos (by omega),if_pos hj]
 rw[if_neg (by omega),if_neg hj]
end
theorem fV (u num den:Int) (l:List Ins):(gK u num den l).length=l.length:=by simp[gK]
theorem lM {u num den:Int} {l:List Ins} {k:Nat} {i:Ins} (h:l[k]?=some i):(gK u num den l)[k]?=some (if i.under=u then kS num den i else i):=by simp[gK,h]
theorem gG {u num den:Int} {l:List Ins} {qs:List Int} (h:l.length=qs.length):(eP u num den l qs).length=qs.length:=by simp[eP,h]
theorem mQ {u num den:Int} {l:List Ins} {qs:List Int} {k:Nat} {i:Ins} {q:Int} (h:l[k]?=some i) (hq:qs[k]?=some q):(eP u num den l qs)[k]?=some (if i.under=u then (bY num den q).1 else q):=by
 unfold eP;rw[List.getElem?_zipWith,h,hq]
theorem eX (L:aH) (u num den:Int) (l:List Pos):(bn L u num den l).length=l.length:=by simp[bn]
theorem jK {L:aH} {u num den:Int} {l:List Pos} {k:Nat} {p:Pos} (h:l[k]?=some p):(bn L u num den l)[k]?=some (if L.over u p.instr=true then { p with qty:=(bY num den p.qty).1 } else p):=by simp[bn,h]
def aH.dV (L:aH) (u num den:Int) (k:Nat):aH:={ L with ah:=L.ah.set u.toNat { L.und u with price:=(eU num den (L.und u).price).1 },af:=mix L.af (gK u num den L.af) k,aG:=mix L.aG (eP u num den L.af L.aG) k }
theorem vW {L:aH} {u num den:Int} {k:Nat} (h:L.aG.length=L.af.length) (hk:L.af.length<=k):L.dV u num den k=L.split u num den:=by
 unfold aH.dV aH.split;rw[Ag (fV _ _ _ _) hk,Ag (gG h.symm) (by omega)]
theorem xq {u num den:Int} {m:Nat} {i:Ins} {q:Int} {l:List Ins} {qs:List Int} (h:¬ i.under=u):fC u num den m (i::l) (q::qs)=fC u num den m l qs:=by simp only[fC,if_neg h]
theorem nS {u num den:Int} {m:Nat} {i:Ins} {q:Int} {l:List Ins} {qs:List Int} (h:i.under=u) (he:sZ num den m i q≠0):fC u num den m (i::l) (q::qs)=sZ num den m i q:=by simp only[fC,if_pos h,if_neg he]
theorem xu {u num den:Int} {m:Nat} {i:Ins} {q:Int} {l:List Ins} {qs:List Int} (h:i.under=u) (he:sZ num den m i q=0):fC u num den m (i::l) (q::qs)=fC u num den m l qs:=by simp only[fC,if_pos h,if_pos he]
theorem zi {u num den:Int} {m:Nat} {qs:List Int}:fC u num den m [] qs=0:=by cases qs <;> rfl
theorem qM (L:aH) (u num den:Int) (n:Nat):((L.split u num den).ins n).under=(L.ins n).under:=by
 unfold aH.ins aH.split gK
 simp only[Int.toNat_natCast,List.getD_eq_getElem?_getD,List.getElem?_map]
 cases L.af[n]? with
 | none=>rfl
 | some i=>simp only[Option.map_some,Option.getD_some];split <;> rfl
theorem Ku {L:aH} {u num den:Int} {n:Nat} (hn:n<L.af.length) (h:L.over u n=true):(L.split u num den).ins n=kS num den (L.ins n):=by
 have h':(L.ins n).under=u:=by simpa [aH.over] using h
 have h2:=lM (u:=u) (num:=num) (den:=den) (aH.jE hn);rw[if_pos h'] at h2
 show (gK u num den L.af).getD (Int.toNat (n:Int)) _=_
 rw[Int.toNat_natCast,List.getD_eq_getElem?_getD,h2];rfl
theorem zB (N:aH) (ps:List Pos) (c x f t:Int):(fP { N with au:=ps } c x f t).2=(fP N c x f t).2/\((fP N c x f t).2=0->(fP { N with au:=ps } c x f t).1={ (fP N c x f t).1 with au:=ps }):=by
 have e1:∀ a c,aH.aT { N with au:=ps } a c=N.aT a c:=fun _ _=>rfl
 have e2:∀ a c x,aH.di { N with au:=ps } a c x={ N.di a c x with au:=ps }:=fun _ _ _=>rfl
 have e3:∀ (M:aH) a c,aH.aT { M with au:=ps } a c=M.aT a c:=fun _ _ _=>rfl
 unfold fP
 simp only[e1,e2,e3]
 by_cases h1:(fK (N.aT f c) x).2=0
 ·rw[if_pos h1,if_pos h1];by_cases h2:(dQ ((N.di f c (fK (N.aT f c) x).1).aT t c) x).2=0
  ·rw[if_pos h2,if_pos h2];exact⟨rfl,fun _=>rfl⟩
  rw[if_neg h2,if_neg h2];exact⟨rfl,fun h=>absurd h h2⟩
 rw[if_neg h1,if_neg h1];exact⟨rfl,fun h=>absurd h h1⟩
theorem aH.gZ.au {N:aH} (h:N.gZ) {ps:List Pos} (hl:ps.length=N.au.length):aH.gZ { N with au:=ps } :=
 ⟨⟨h.things.c0,h.things.c1,h.things.u1,h.things.i1,h.things.aQ,h.things.ah,h.things.names,h.things.af⟩,⟨h.accounts.tree,h.accounts.ai⟩,by have:=h.bulk;unfold aH.bulk at this ⊢;simp only[hl];exact this⟩
theorem bF.rQ {w:World} {B:Nat} {V:aB} {l:aH} (h:bF w B V l) {v:Value} {xs:List Ord} (ho:aV w B 74 5 Ord.cells v xs) (hv:∀ y∈V.rows,gW y v) :
 bF w B { V with orders:=v } { l with orders:=xs } :=
 ⟨h.aQ,h.ah,h.af,h.same,h.ai,h.aT,h.au,ho,h.aG,h.aJ,Oc h.sep (q:=5) rfl (fun m y _ hm=>hv y (List.mem_of_getElem? hm)),h.names,h.nums⟩
theorem dB.rQ {w W:World} {R0 b:Nat} {bs:List (Nat×TypeId×Array Value)} {V:aB} {l L:aH} {T:TypeId} (h:dB w R0 bs V l W) (i:Nat) (hi:bs[i]?=some (b,T,V.cells L)) {v:Value} {xs:List Ord} (ho:aV W R0 74 5 Ord.cells v xs) (hv:∀ y∈V.rows,gW y v) (hn:∀ x∈bs,v.ownBlock≠some x.1) :
 dB w R0 (bs.set i (b,T,({ V with orders:=v }:aB).cells L)) { V with orders:=v } { l with orders:=xs } (W.setCell ⟨b,6,none⟩ v):=by
 have f:dB w R0 bs { V with orders:=v } { l with orders:=xs } W:=⟨h.at_,h.own.rQ ho hv,fun x hx=>nX (h.uq x hx) (q:=5) rfl (hn x hx),h.rb,h.lo⟩;exact f.cell i hi 6 v
theorem dB.Qw {w W:World} {R0:Nat} {bs:List (Nat×TypeId×Array Value)} {V:aB} {l:aH} (F:dB w R0 bs V l W) {g c k:Nat} (hv:V.au=.slice (some ⟨g,0,none⟩) l.au.length c) {x:Pos} (hk:l.au[k]?=some x) (q:Int) :
 dB w R0 bs V { l with au:=l.au.set k { x with qty:=q } } (((W.setCell ⟨g,k*3,none⟩ (.int .i64 x.ak)).setCell ⟨g,k*3+1,none⟩ (.int .i64 x.instr)).setCell ⟨g,k*3+2,none⟩ (.int .i64 q)):=by
 have hg:V.au.ownBlock=some g:=by rw[hv];rfl
 obtain⟨o1,m1⟩:=F.own.yg (x':=x) (u:=.int .i64 x.ak) (j:=0) hv hk (by decide) rfl;have f1:=F.row o1 m1 (q:=4) rfl hg rfl;have e1:l.au.set k x=l.au:=by
  apply List.ext_getElem?
  intro i;rw[List.getElem?_set];by_cases e:k=i
  ·subst e;rw[if_pos rfl,if_pos (List.getElem?_eq_some_iff.1 hk).1,hk]
  rw[if_neg e]
 rw[e1] at f1;obtain⟨o2,m2⟩:=f1.own.yg (x':=x) (u:=.int .i64 x.instr) (j:=1) hv hk (by decide) rfl;have f2:=f1.row o2 m2 (q:=4) rfl hg rfl;rw[show ({ l with au:=l.au }:aH).au.set k x=l.au from e1] at f2;obtain⟨o3,m3⟩:=f2.own.yg (x':={ x with qty:=q }) (u:=.int .i64 q) (j:=2) hv hk (by decide) rfl;exact f2.row o3 m3 (q:=4) rfl hg rfl
theorem dB.Oh {w W:World} {R0:Nat} {bs:List (Nat×TypeId×Array Value)} {V:aB} {l:aH} (F:dB w R0 bs V l W) {g c k:Nat} (hv:V.af=.slice (some ⟨g,0,none⟩) l.af.length c) {x:Ins} (hk:l.af[k]?=some x) (s m:Int) :
 dB w R0 bs V { l with af:=l.af.set k { x with strike:=s,mark:=m } } ((W.setCell ⟨g,k*7+3,none⟩ (.int .i64 s)).setCell ⟨g,k*7+6,none⟩ (.int .i64 m)):=by
 have hg:V.af.ownBlock=some g:=by rw[hv];rfl
 have hl:=(List.getElem?_eq_some_iff.1 hk).1;obtain⟨o1,m1⟩:=F.own.oW (x':={ x with strike:=s }) (u:=.int .i64 s) (j:=3) hv hk (by decide) rfl;have f1:=F.row o1 m1 (q:=2) rfl hg rfl;obtain⟨o2,m2⟩:=f1.own.oW (k:=k) (x:={ x with strike:=s }) (x':={ x with strike:=s,mark:=m }) (u:=.int .i64 m) (j:=6) (by simpa using hv) (by simp[hl]) (by decide) rfl;have f2:=f1.row o2 m2 (q:=2) rfl hg rfl;rw[show ({ l with af:=l.af.set k { x with strike:=s } }:aH).af.set k { x with strike:=s,mark:=m }=l.af.set k { x with strike:=s,mark:=m } from by simp] at f2;exact f2
theorem dB.DU {w W:World} {R0:Nat} {bs:List (Nat×TypeId×Array Value)} {V:aB} {l:aH} (F:dB w R0 bs V l W) {g c k:Nat} (hv:V.aG=.slice (some ⟨g,0,none⟩) l.aG.length c) {x:Int} (hk:l.aG[k]?=some x) (q:Int) :
 dB w R0 bs V { l with aG:=l.aG.set k q } (W.setCell ⟨g,k,none⟩ (.int .i64 q)):=by
 obtain⟨o1,m1⟩:=F.own.Kt (x':=q) (u:=.int .i64 q) hv hk rfl;exact F.row o1 m1 (q:=6) rfl (by rw[hv];rfl) rfl
theorem dB.DV {w W:World} {R0:Nat} {bs:List (Nat×TypeId×Array Value)} {V:aB} {l:aH} (F:dB w R0 bs V l W) {g c k:Nat} (hv:V.ah=.slice (some ⟨g,0,none⟩) l.ah.length c) {x:dX} (hk:l.ah[k]?=some x) (q:Int) :
 dB w R0 bs V { l with ah:=l.ah.set k { x with price:=q } } (W.setCell ⟨g,k*4+2,none⟩ (.int .i64 q)):=by
 obtain⟨o1,m1⟩:=F.own.GZ (x':={ x with price:=q }) (u:=.int .i64 q) (j:=2) hv hk (by decide) rfl (F.own.names x (List.mem_of_getElem? hk));exact F.row o1 m1 (q:=1) rfl (by rw[hv];rfl) rfl
end Go.Bw
namespace Go.Proofs.YtcepekniflaoaaaGreatDoor
open Go.RowKit Go.Bw Go.Maps Go.Shelf Go.Bw.Fall
theorem JS {α:Type} {n:Nat} {f:α->List Value} (w:World) (B:Nat) (e:TypeId) (hB:B<=w.heap.size):aV (w.alloc (.cells #[] e)) B e n f (.slice (some ⟨w.heap.size,0,none⟩) 0 0) [] :=
 ⟨by simp,Or.inr ⟨w.heap.size,0,#[],rfl,hB,heap_alloc_new w _,Nat.le_refl _,Nat.zero_le _,by simp,by simp⟩⟩
structure Ig (w:World) (R0 b:Nat) (bs:List (Nat×TypeId×Array Value)) (V:aB) (L:aH) (u num den:Int) (ol:Value) (old:List Ins) (k:Nat) (W':World):Prop where
 jl:dB w R0 ((b, 57,V.cells L)::bs) V (L.dV u num den k) W'
 go:fC u num den L.ah.length (L.af.drop k) (L.aG.drop k)=fC u num den L.ah.length L.af L.aG
 old:aV W' R0 66 7 Ins.cells ol old
 sep:∀ x∈(b, 57,V.cells L)::bs,ol.ownBlock≠some x.1
 apart:∀ y∈V.rows,gW y ol
theorem DZ {L:aH} (hG:L.Good) (u num den:Int) {n:Nat} (hn:n<L.af.length):(L.split u num den).dG n=L.dG n:=by
 unfold aH.dG;rw[qM];have hi:=hG.xw hn;obtain⟨m,hm⟩:∃ m:Nat,(L.ins n).under=m:=⟨(L.ins n).under.toNat,by have:=hi.1;omega⟩;rw[hm];unfold aH.und aH.split
 simp only[Int.toNat_natCast,List.getD_eq_getElem?_getD,List.getElem?_set]
 by_cases e:u.toNat=m
 ·subst e;by_cases hl:u.toNat<L.ah.length
  ·rw[if_pos rfl,if_pos hl];rfl
  rw[if_pos rfl,if_neg hl,List.getElem?_eq_none (by omega)]
 rw[if_neg e]
structure lU (w:World) (R0 b:Nat) (bs:List (Nat×TypeId×Array Value)) (V:aB) (L:aH) (u num den:Int) (vo:Value) (f:Pos->Option (Int×Int)) (c:Pos->Int) (k:Nat) (V':aB) (N:aH) (W':World):Prop where
 jl:dB w R0 ((b, 57,V'.cells { N with au:=mix L.au (bn L u num den L.au) k })::bs) V' { N with au:=mix L.au (bn L u num den L.au) k } W'
 go:dD f c 1 (L.au.drop k) N=dD f c 1 L.au (L.split u num den)
 dI:dW (L.split u num den) N
 row:RowOf W' 3 Pos.cells V.au L.au
 old:aV W' R0 66 7 Ins.cells vo L.af
theorem lU.QO {w:World} {R0 b:Nat} {bs:List (Nat×TypeId×Array Value)} {V:aB} {L:aH} {u num den:Int} {vo:Value} {f:Pos->Option (Int×Int)} {c:Pos->Int} {k:Nat} {V':aB} {N:aH} {W' W2:World} (h:lU w R0 b bs V L u num den vo f c k V' N W') (hb:Below W'.heap.size W' W2):lU w R0 b bs V L u num den vo f c k V' N W2 :=
 ⟨h.jl.go hb,h.go,h.dI,h.row.below hb,h.old.mod (Mod.of_below hb) (fun _ _ h=>h)⟩
theorem lU.more {w:World} {R0 b:Nat} {bs:List (Nat×TypeId×Array Value)} {V:aB} {L:aH} {u num den:Int} {vo:Value} {f:Pos->Option (Int×Int)} {c:Pos->Int} {k:Nat} {V':aB} {N:aH} {W':World} (h:lU w R0 b bs V L u num den vo f c k V' N W') (T:TypeId) (cells:Array Value):lU w R0 b ((W'.heap.size,T,cells)::bs) V L u num den vo f c k V' N (W'.alloc (.cells cells T)) :=
 ⟨h.jl.add1 T cells,h.go,h.dI,h.row.below (Zb),h.old.mod (Mod.of_below (Zb)) (fun _ _ h=>h)⟩
theorem lU.less {w:World} {R0 b:Nat} {x:Nat×TypeId×Array Value} {bs:List (Nat×TypeId×Array Value)} {V:aB} {L:aH} {u num den:Int} {vo:Value} {f:Pos->Option (Int×Int)} {c:Pos->Int} {k:Nat} {V':aB} {N:aH} {W':World} (h:lU w R0 b (x::bs) V L u num den vo f c k V' N W'):lU w R0 b bs V L u num den vo f c k V' N W' :=
 ⟨h.jl.drop1,h.go,h.dI,h.row,h.old⟩
theorem lU.skip {w:World} {R0 b:Nat} {bs:List (Nat×TypeId×Array Value)} {V:aB} {L:aH} {u num den:Int} {vo:Value} {f:Pos->Option (Int×Int)} {c:Pos->Int} {k:Nat} {V':aB} {N:aH} {W':World} (h:lU w R0 b bs V L u num den vo f c k V' N W') {p:Pos} (hp:L.au[k]?=some p) (hf:f p=none) (ho:L.over u p.instr≠true):lU w R0 b bs V L u num den vo f c (k+1) V' N W':=by
 have e:mix L.au (bn L u num den L.au) (k+1)=mix L.au (bn L u num den L.au) k:=qA (eX _ _ _ _ _) (by rw[jK hp,if_neg ho,hp]);exact⟨by rw[e];exact h.jl,by rw[<-h.go,drop_at hp,oQ hf],h.dI,h.row,h.old⟩
structure wM (WK:World) (L:aH) (u num den:Int) (k:Nat) (o:Value) (W':World):Prop where
 low:Below WK.heap.size WK W'
 own:aV W' WK.heap.size 72 3 Pos.cells o ((bn L u num den (L.aJ.take k)).filter (fun p=>decide (0<p.qty)))
 go:dY L u num den (L.aJ.drop k)=dY L u num den L.aJ
theorem wM.next {WK:World} {L:aH} {u num den:Int} {k:Nat} {o o':Value} {W' W2:World} (h:wM WK L u num den k o W') {p:Pos} {q:Int} (hp:L.aJ[k]?=some p) (hq:q=if L.over u p.instr=true then (bY num den p.qty).1 else p.qty) (hs:L.over u p.instr=true->(bY num den p.qty).2=0) (hl:Below WK.heap.size WK W2)
 (ho:aV W2 WK.heap.size 72 3 Pos.cells o' ((bn L u num den (L.aJ.take k)).filter (fun p=>decide (0<p.qty))++if decide (0<q)=true then [{ p with qty:=q }] else [])):wM WK L u num den (k+1) o' W2:=by
 refine⟨hl,?_,?_⟩
 ·have e:(bn L u num den (L.aJ.take (k+1))).filter (fun p=>decide (0<p.qty))=(bn L u num den (L.aJ.take k)).filter (fun p=>decide (0<p.qty))++if decide (0<q)=true then [{ p with qty:=q }] else []:=by
   rw[List.take_add_one,hp];unfold bn;rw[List.map_append,List.filter_append]
   congr 1
   have:(if L.over u p.instr=true then ({ p with qty:=(bY num den p.qty).1 }:Pos) else p)={ p with qty:=q }:=by
    rw[hq];split <;> rfl
   simp only[Option.toList,List.map_cons,List.map_nil,this,List.filter_cons,List.filter_nil]
  rw[e];exact ho
 rw[<-h.go,drop_at hp];by_cases ho:L.over u p.instr=true
 ·simp only[dY,if_pos ho,if_pos (hs ho)]
 simp only[dY,if_neg ho]
structure KI (WK:World) (B:Nat) (L:aH) (u:Int) (k:Nat) (o:Value) (W':World):Prop where
 low:Below WK.heap.size WK W'
 own:aV W' B 74 5 Ord.cells o ((L.orders.take k).filter (fun x=>!L.over u x.instr))
theorem Qx (w:World) (L:aH) (hG:L.Good) (u num den:Int) (hnum:I64 num) (hden:I64 den) (pu pn pd:Nat) :
 pX w L 19 #[.pointer (some ⟨pu,0,none⟩),.pointer (some ⟨pn,0,none⟩),.pointer (some ⟨pd,0,none⟩)] [(pu, 3,#[.int .i64 u]),(pn, 3,#[.int .i64 num]),(pd, 3,#[.int .i64 den])] (cO L u num den):=by
 classical
 intro W R0 b V rest F;have FF:=zq F;have HG:=zq hG;have HN:=zq (And.intro hnum hden);obtain⟨a2,c2,e2⟩:=F.own.led.ah.form;have E2:=zq e2;obtain⟨n2,hn2⟩:=Zn L.ah.length;have N2:=zq hn2;have y2:W.cell? ⟨b,2,none⟩=some (.slice a2 n2 c2):=F.at_.cell 0 rfl 2 (by rw[hn2,<-e2];rfl);have x0:W.cell? ⟨pu,0,none⟩=some (.int .i64 u):=F.at_.cell 1 rfl 0 rfl;clear F e2 hn2 hG hnum hden;by_cases h0:0<=u;rotate_left
 ·have hr:=zq (show (cO L u num den).err=31 from by unfold cO;rw[if_neg (by omega)];rfl);have d0:decide (0<=u)=false:=decide_eq_false h0
  go_enter Tryz.func19,Tryz.ntmps19
  go_wp2_with fail
  refine aI.aX (C:=(fun w'=>True)) [12] [] (.step 0 (.step 1 (.step 2 (.step 3 (.step 4 (.step 5 (.step 6 (.step 7 (.step 8 (.step 9 (.step 10 (.step 11 (.step 12 .leaf))))))))))))) (fun ch d w'=>d=[]/\jO (cO L u num den) w R0 b rest (.panicked ch) w') (by kernel_rfl) (fun _ _ _ h=>⟨h.1,h.2⟩) (by kernel_rfl) trivial ?_;refine aI.aC [0,1,2,3,4,5,6,7,8,9,10,11] (by kernel_rfl) ?_
  simp only[ay,nth]
  repeat (go_big_quiet_step (fail))
  refine wpQuiet_nil ?_;refine aI.dm (by kernel_rfl) rfl (by kernel_rfl) (fun K hK=>?_)
  simp only[ay,nth]
  refine aA ?_;go_simp;refine (fZ 31 _).mono ?_;rintro e w' ⟨rfl,rfl⟩;exact⟨rfl,dS hr.o (by decide) FF.o.drew.at_⟩
 obtain⟨kk,rfl⟩:∃ k:Nat,u=k:=⟨u.toNat,by omega⟩
 go_enter Tryz.func19,Tryz.ntmps19
 go_wp2_with fail
 refine aI.aX (C:=(fun w'=>True)) [12] [] (.step 0 (.step 1 (.step 2 (.step 3 (.step 4 (.step 5 (.step 6 (.step 7 (.step 8 (.step 9 (.step 10 (.step 11 (.step 12 .leaf))))))))))))) (fun ch d w'=>d=[]/\jO (cO L (kk:Int) num den) w R0 b rest (.panicked ch) w') (by kernel_rfl) (fun _ _ _ h=>⟨h.1,h.2⟩) (by kernel_rfl) trivial ?_;refine aI.aC [0,1,2,3,4,5,6,7,8,9,10,11] (by kernel_rfl) ?_
 simp only[ay,nth]
 repeat (go_big_quiet_step (fail))
 refine wpQuiet_nil ?_;refine aI.dm (by kernel_rfl) rfl (by kernel_rfl) (fun K hK=>?_)
 simp only[ay,nth]
 refine aA ?_;go_simp;refine (kT (kk<n2) 31 _).mono ?_;rintro e w' ⟨he,rfl⟩;rcases Or.symm he with ⟨hlt,rfl⟩|⟨hlt,rfl⟩
 ·exact⟨rfl,dS (by unfold cO;rw[if_neg (by have:=N2.o;omega)];rfl) (by decide) FF.o.drew.at_⟩
 go_simp;refine hK _ _ ?_;clear hK;refine aI.bH ?_;have hk':=zq (show kk<L.ah.length from by rw[<-N2.o];omega);have FA:=zq FF.o.drew;obtain⟨WA,hWA⟩:=Zn W.drew;rw[<-hWA] at FA ⊢;clear hWA y2 x0 h0 he hlt FF;have x1:WA.cell? ⟨pn,0,none⟩=some (.int .i64 num):=FA.o.at_.cell 2 rfl 0 rfl;have x2:WA.cell? ⟨pd,0,none⟩=some (.int .i64 den):=FA.o.at_.cell 3 rfl 0 rfl;have ARG:=zq (show (1<=num/\num<=1000/\1<=den/\den<=1000)\/(num<1\/(1<=num/\1000<num)\/(1<=num/\num<=1000/\den<1)\/(1<=num/\num<=1000/\1<=den/\1000<den)) from by omega);have hr:=zq (show ¬ (1<=num/\num<=1000/\1<=den/\den<=1000)->(cO L (kk:Int) num den).err=1 from fun h=>by unfold cO;rw[if_pos (by have:=hk'.o;omega),if_neg h];rfl);rcases ARG.o with hin|h1|h1|h1|h1;rotate_left
 ·have hr:=zq (hr.o (by omega));have hb1:decide (1<=num)=false:=Zf (by omega);clear h1
  go_wp2_with fail
  refine (fZ 1 _).mono ?_;rintro e w' ⟨rfl,rfl⟩
  go_wp2_with fail
  exact⟨rfl,dS hr.o (by decide) FA.o.at_⟩
 ·have hr:=zq (hr.o (by omega));have hb1:decide (1<=num)=true:=decide_eq_true (by omega);have hb2:decide (num<=1000)=false:=Zf (by omega);clear h1
  go_wp2_with fail
  refine (fZ 1 _).mono ?_;rintro e w' ⟨rfl,rfl⟩
  go_wp2_with fail
  exact⟨rfl,dS hr.o (by decide) FA.o.at_⟩
 ·have hr:=zq (hr.o (by omega));have hb1:decide (1<=num)=true:=decide_eq_true (by omega);have hb2:decide (num<=1000)=true:=decide_eq_true (by omega);have hb3:decide (1<=den)=false:=Zf (by omega);clear h1
  go_wp2_with fail
  refine (fZ 1 _).mono ?_;rintro e w' ⟨rfl,rfl⟩
  go_wp2_with fail
  exact⟨rfl,dS hr.o (by decide) FA.o.at_⟩
 ·have hr:=zq (hr.o (by omega));have hb1:decide (1<=num)=true:=decide_eq_true (by omega);have hb2:decide (num<=1000)=true:=decide_eq_true (by omega);have hb3:decide (1<=den)=true:=decide_eq_true (by omega);have hb4:decide (den<=1000)=false:=Zf (by omega);clear h1
  go_wp2_with fail
  refine (fZ 1 _).mono ?_;rintro e w' ⟨rfl,rfl⟩
  go_wp2_with fail
  exact⟨rfl,dS hr.o (by decide) FA.o.at_⟩
 have HIN:=zq hin;have hb1:decide (1<=num)=true:=decide_eq_true (by omega);have hb2:decide (num<=1000)=true:=decide_eq_true (by omega);have hb3:decide (1<=den)=true:=decide_eq_true (by omega);have hb4:decide (den<=1000)=true:=decide_eq_true (by omega);clear hin ARG hr
 go_wp2_with fail
 refine (kU 1 _).mono ?_;rintro e w' ⟨rfl,rfl⟩;clear hb1 hb2 hb3 hb4 x1 x2;have ES0:=zq (show cO L (kk:Int) num den=if (eU num den (L.und kk).price).2=0 then
  if dX.Ok { L.und kk with price:=(eU num den (L.und kk).price).1 } L.aQ.length then
   if fC kk num den L.ah.length L.af L.aG=0 then
    if (dD (ku L kk num den) (fun p=>L.dG p.instr) 1 L.au (L.split kk num den)).2=0 then
     if dY L kk num den L.aJ=0 then
      ⟨{ (dD (ku L kk num den) (fun p=>L.dG p.instr) 1 L.au (L.split kk num den)).1 with au:=(bn L kk num den L.au).filter (fun p=>decide (p.qty≠0)),aJ:=(bn L kk num den L.aJ).filter (fun p=>decide (0<p.qty)),orders:=L.orders.filter (fun o=>!L.over kk o.instr) },kk,0⟩
     else .no (dY L kk num den L.aJ)
    else .no (dD (ku L kk num den) (fun p=>L.dG p.instr) 1 L.au (L.split kk num den)).2
   else .no (fC kk num den L.ah.length L.af L.aG)
  else .no 37
  else .no (eU num den (L.und kk).price).2 from by
  have h1:=HIN.o;have h2:=hk'.o;unfold cO;rw[if_pos (by omega),if_pos h1])
 -- old: a copy of the instruments
 obtain⟨a3,c3,e3⟩:=FA.o.own.led.af.form;have E3:=zq e3;obtain⟨n3,hn3⟩:=Zn L.af.length;have N3:=zq hn3;have U12:=zq (show n3<=12/\n2<=6 from ⟨by rw[hn3];exact HG.o.things.i1,by rw[N2.o];exact HG.o.things.u1⟩);have y3:WA.cell? ⟨b,3,none⟩=some (.slice a3 n3 c3):=FA.o.at_.cell 0 rfl 3 (by rw[hn3,<-e3];rfl);have FE:=zq (FA.o.go ((Below.refl _ _).alloc (Nat.le_refl _) (.cells #[] 66)));obtain⟨vo,WB,hrun,ho,hm,hbk⟩:=Ew (WA.alloc (.cells #[] 66)) R0 (.slice (some ⟨WA.heap.size,0,none⟩) 0 0) [] (JS WA R0 _ FA.o.rb) FE.o.rb V.af L.af (FE.o.own.led.af.reads dU) (by have:=U12.o;have:=N3.o;simp;omega);rw[List.nil_append] at ho;obtain⟨ao,co,eo,_⟩:=ho.form;rw[<-hn3] at eo;have MB:=zq (show Mod (fun _=>False) WA WB from by
  have h1:=(Mod.refl (fun _=>False) WA).alloc (.cells #[] 66);exact ((h1.mono (T:=fun k=>(Value.slice (some ⟨WA.heap.size,0,none⟩) 0 0).ownBlock=some k) (fun _ _ h=>h.elim)).trans hm (fun _ _ h=>h)).mono (fun k hk e=>by simp[Value.ownBlock] at e;omega))
 have OB:=zq (show ∀ k,vo.ownBlock=some k->WA.heap.size<=k from fun k hk=>by
  rcases hbk k hk with e|e
  ·simp[Value.ownBlock] at e;omega
  simp at e;omega)
 have RUN:=zq hrun;rw[e3,<-hn3,eo] at RUN;have FB:=zq (FA.o.go MB.o.aU);have OL:=zq ho;have HEO:=zq eo;have SEP:=zq (show ∀ x∈(b, 57,V.cells L)::(pu, 3,#[.int .i64 (kk:Int)])::(pn, 3,#[.int .i64 num])::(pd, 3,#[.int .i64 den])::rest,vo.ownBlock≠some x.1 from fun x hx e=>by have:=OB.o _ e;have:=FA.o.at_.lt x hx;omega);have APA:=zq (show ∀ y∈V.rows,gW y vo from fun y hy k h1 h2=>by have:=OB.o _ h2;have:=FA.o.own.PU y hy k h1;omega);have y3e:(WA.alloc (.cells #[] 66)).cell? ⟨b,3,none⟩=some (.slice a3 n3 c3):=FE.o.at_.cell 0 rfl 3 (by rw[hn3,<-e3];rfl);clear hrun ho hm hbk eo e3 hn3
 go_upto_region 5 with (at_builtin;refine wpList_append_run rfl (.tmp 47) (.tmp 52) 24 rfl rfl rfl RUN.o ?_)
 clear RUN y3 y3e FE MB
 -- the price
 have UA:=zq (aH.Hu hk'.o);obtain⟨g2,d2,hv2,_,_,hc2,hz2⟩:=FB.o.own.ah.slot iJ (by decide) UA.o;rw[<-N2.o] at hv2;have HV2:=zq hv2;have HZ2:=zq (hz2 (kk*4+2));obtain⟨pr,hpr⟩:=Zn ((L.und kk).price);have HPR:=zq hpr;have Q2:=zq (show WB.cell? ⟨g2,kk*4+2,none⟩=some (.int .i64 pr) from by rw[hpr];exact hc2 2 _ rfl);have UOK:=zq (HG.o.things.ah kk _ UA.o);have IPR:=zq (show I64 pr from by obtain⟨_,_,_,p0,p1,_,_⟩:=UOK.o;exact⟨by omega,by omega⟩);obtain⟨p',ep,hlp⟩:∃ x e,eU num den pr=(x,e):=⟨_,_,rfl⟩;have HLP:=zq hlp;have LESS:=zq (fun W2 (F:dB w R0 ((b, 57,V.cells L)::(pu, 3,#[.int .i64 (kk:Int)])::(pn, 3,#[.int .i64 num])::(pd, 3,#[.int .i64 den])::rest) V L W2) v (hv:I64 v)=>zl pn pd num den v hv HN.o.1 HN.o.2 W2 (F.at_.cell 2 rfl 0 rfl) (F.at_.cell 3 rfl 0 rfl));have LESSP:=zq (fun W2 F=>LESS.o W2 F pr IPR.o);rw[hlp] at LESSP;clear hv2 hc2 hz2 hpr hlp;have FD:=zq FB.o.drew;have Q2D:=zq (show WB.drew.cell? ⟨g2,kk*4+2,none⟩=some (.int .i64 pr) from Q2.o);have HZ2D:=zq (show WB.drew.frozen? ⟨g2,kk*4+2,none⟩=false from HZ2.o);have OLD:=zq (OL.o.mod ((Mod.refl (fun _=>False) WB).drew) (fun _ _ h=>h));obtain⟨WC,hWC⟩:=Zn WB.drew;rw[<-hWC] at FD Q2D HZ2D OLD;have CL:=zq (show ∀ W2,dB w R0 ((b, 57,V.cells L)::(pu, 3,#[.int .i64 (kk:Int)])::(pn, 3,#[.int .i64 num])::(pd, 3,#[.int .i64 den])::rest) V L W2->(fun W2:World=>W2.cell? ⟨b,2,none⟩=some (.slice (some ⟨g2,0,none⟩) n2 d2)/\W2.cell? ⟨pu,0,none⟩=some (.int .i64 (kk:Int))) W2 from fun W2 F=>⟨F.at_.cell 0 rfl 2 (by rw[<-HV2.o];rfl),F.at_.cell 1 rfl 0 rfl⟩);have j1:∀ z:dh (fun W2:World=>W2.cell? ⟨b,2,none⟩=some (.slice (some ⟨g2,0,none⟩) n2 d2)/\W2.cell? ⟨pu,0,none⟩=some (.int .i64 (kk:Int))),z.w.cell? ⟨b,2,none⟩=some (.slice (some ⟨g2,0,none⟩) n2 d2):=fun z=>z.ok.1
 have j2:∀ z:dh (fun W2:World=>W2.cell? ⟨b,2,none⟩=some (.slice (some ⟨g2,0,none⟩) n2 d2)/\W2.cell? ⟨pu,0,none⟩=some (.int .i64 (kk:Int))),z.w.cell? ⟨pu,0,none⟩=some (.int .i64 (kk:Int)):=fun z=>z.ok.2
 haveI ne:Nonempty (dh (fun W2:World=>W2.cell? ⟨b,2,none⟩=some (.slice (some ⟨g2,0,none⟩) n2 d2)/\W2.cell? ⟨pu,0,none⟩=some (.int .i64 (kk:Int)))):=⟨⟨WC,CL.o _ FD.o⟩⟩
 have k0:(0:Int)<=(kk:Int):=by omega
 have k1:(kk:Int)<(n2:Int):=by have:=hk'.o;have:=N2.o;omega
 have eg:∀ (args:Array Value) (w:World),(callFunc 21 args).run Tryz.prog w=.ok (.enter 21 args) w:=enters_of Tryz.func21 (by kernel_rfl) rfl;refine aI.aX (C:=(fun w'=>∃ z:dh (fun W2:World=>W2.cell? ⟨b,2,none⟩=some (.slice (some ⟨g2,0,none⟩) n2 d2)/\W2.cell? ⟨pu,0,none⟩=some (.int .i64 (kk:Int))),w'=z.w)) [16,19] [0,1,2,3,4,5] (.step 0 (.step 1 (.step 2 (.step 3 (.step 4 (.step 5 (.step 6 (.step 7 (.step 8 (.step 9 (.step 10 (.step 11 (.step 12 (.step 13 (.step 14 (.step 15 (.step 16 (.step 17 (.step 18 (.step 19 .leaf)))))))))))))))))))) (fun ch d w'=>d=[]/\jO (cO L (kk:Int) num den) w R0 b rest (.panicked ch) w') (by kernel_rfl) (fun _ _ _ h=>⟨h.1,h.2⟩) (by kernel_rfl) ⟨⟨WB.drew,by rw[<-hWC];exact CL.o _ FD.o⟩,rfl⟩ ?_;rw[<-hWC];clear hWC;refine aI.bM [0,1,2,3,4,5] (by kernel_rfl) ?_
 simp only[ay,nth]
 repeat (go_big_quiet_step (fail))
 refine wpQuiet_nil ?_;have s1:WC.cell? ⟨b,2,none⟩=some (.slice (some ⟨g2,0,none⟩) n2 d2):=(CL.o _ FD.o).1;have s2:WC.cell? ⟨pu,0,none⟩=some (.int .i64 (kk:Int)):=(CL.o _ FD.o).2;have s3:=Q2D.o;refine aI.aC [6,7,8,9,10,11,12,13,14,15] (by kernel_rfl) ?_
 simp only[ay,nth]
 repeat (go_big_quiet_step (fail))
 refine wpQuiet_nil ?_;clear j1 j2 s1 s2 s3;refine aI.aK (by kernel_rfl) rfl (fun K hK=>?_)
 simp only[ay,nth]
 refine aA ?_;go_simp;refine (LESSP.o _ FD.o).mono ?_;rintro e w1 ⟨ho,hb⟩;have F1:=zq (FD.o.go hb);have Q21:=zq ((Mod.of_below hb).cell Q2D.o (fun h=>h));have OL1:=zq (OLD.o.mod (Mod.of_below hb) (fun _ _ h=>h));clear hb LESSP;rcases ho with ⟨hz,rfl⟩|⟨hz,rfl⟩;rotate_left
 ·exact⟨rfl,dS (by rw[ES0.o,<-HPR.o,HLP.o,if_neg hz];rfl) hz F1.o.at_⟩
 try simp only at hz
 subst hz;have ES1:=zq (ES0.o.trans (by rw[<-HPR.o,HLP.o,if_pos rfl]));go_simp;refine hK _ _ (fun _=>⟨⟨_,CL.o _ F1.o⟩,rfl⟩) ?_;clear hK ES0 FB FD OL OLD;refine aI.aC [17,18] (by kernel_rfl) ?_
 simp only[ay,nth]
 repeat (go_big_quiet_step (fail))
 refine wpQuiet_nil ?_;have s3:=Q21.o;have s4:w1.frozen? ⟨g2,kk*4+2,none⟩=false:=by
  obtain⟨g,c,e,_,_,_,hz⟩:=F1.o.own.ah.slot iJ (by decide) UA.o;rw[HV2.o] at e;injection e with e;injection e with e;injection e with e;rw[e];exact hz _
 refine aI.dm (by kernel_rfl) rfl (by kernel_rfl) (fun K hK=>?_)
 simp only[ay,nth]
 refine aA ?_;go_simp;have F2:=zq (show dB w R0 ((b, 57,V.cells L)::(pu, 3,#[.int .i64 (kk:Int)])::(pn, 3,#[.int .i64 num])::(pd, 3,#[.int .i64 den])::rest) V { L with ah:=L.ah.set kk { L.und kk with price:=p' } } (w1.setCell ⟨g2,kk*4+2,none⟩ (.int .i64 p')) from F1.o.DV (by rw[HV2.o,N2.o]) UA.o p');have OL2:=zq (OL1.o.mod ((Mod.refl (fun k=>k=g2) w1).setCell (p:=⟨g2,kk*4+2,none⟩) (.int .i64 p') (fun _=>rfl)) (fun k hk e=>by subst e;exact APA.o V.ah (by simp[aB.rows]) k (by rw[HV2.o];rfl) hk));obtain⟨W2,hW2⟩:=Zn (w1.setCell ⟨g2,kk*4+2,none⟩ (.int .i64 p'));rw[<-hW2] at F2 OL2 ⊢;refine hK _ _ ?_;clear hK hW2 s3 s4 F1 OL1 Q21;refine aI.bH ?_;have ES2:=zq ES1.o;clear ES1
 -- the underlying can be
 obtain⟨L2,hL2⟩:∃ l:aH,l={ L with ah:=L.ah.set kk { L.und kk with price:=p' } }:=⟨_,rfl⟩;obtain⟨ud,hud⟩:∃ x:dX,x={ L.und kk with price:=p' }:=⟨_,rfl⟩;have HUD:=zq hud;have EL2:=zq hL2;have U2:=zq (show L2.ah[kk]?=some ud from by rw[hL2,hud];simp[hk'.o]);rw[<-hL2] at F2;have HV2b:=zq (show V.ah=.slice (some ⟨g2,0,none⟩) L2.ah.length d2 from by rw[HV2.o,hL2];simp[N2.o]);have hR2:=F2.o.own.led.ah;rw[HV2b.o] at hR2;obtain⟨a1,c1,e1⟩:=F2.o.own.led.aQ.form;obtain⟨n1,hn1⟩:=Zn L2.aQ.length;have N1:=zq (show n1=L.aQ.length from by rw[hn1,hL2]);have y1:W2.cell? ⟨b,1,none⟩=some (.slice a1 n1 c1):=F2.o.at_.cell 0 rfl 1 (by rw[hn1,<-e1];rfl);have y2:W2.cell? ⟨b,2,none⟩=some (.slice (some ⟨g2,0,none⟩) n2 d2):=F2.o.at_.cell 0 rfl 2 (by rw[<-HV2.o];rfl);have x0:W2.cell? ⟨pu,0,none⟩=some (.int .i64 (kk:Int)):=F2.o.at_.cell 1 rfl 0 rfl;have u0:W2.cell? ⟨g2,kk*4,none⟩=some (.string ud.name):=by have:=hR2.near U2.o (j:=0) rfl;simpa using this
 have u1:W2.cell? ⟨g2,kk*4+1,none⟩=some (.int .i64 ud.cur):=by have:=hR2.near U2.o (j:=1) rfl;simpa using this
 have u2:W2.cell? ⟨g2,kk*4+2,none⟩=some (.int .i64 ud.price):=by have:=hR2.near U2.o (j:=2) rfl;simpa using this
 have u3:W2.cell? ⟨g2,kk*4+3,none⟩=some (.int .i64 ud.cZ):=by have:=hR2.near U2.o (j:=3) rfl;simpa using this
 have UN:=zq (fun W=>IU ud n1 (by rw[N1.o];exact HG.o.things.c1) (F2.o.own.names ud (List.mem_of_getElem? U2.o)) W);clear hL2 hud hR2 hn1 e1
 go_wp2_with fail
 refine aI.aX (C:=(fun w'=>True)) [14,15] [] (.step 0 (.step 1 (.step 2 (.step 3 (.step 4 (.step 5 (.step 6 (.step 7 (.step 8 (.step 9 (.step 10 (.step 11 (.step 12 (.step 13 (.step 14 (.step 15 .leaf)))))))))))))))) (fun ch d w'=>d=[]/\jO (cO L (kk:Int) num den) w R0 b rest (.panicked ch) w') (by kernel_rfl) (fun _ _ _ h=>⟨h.1,h.2⟩) (by kernel_rfl) trivial ?_;refine aI.aC [0,1,2,3,4,5,6,7,8,9,10,11,12,13] (by kernel_rfl) ?_
 simp only[ay,nth]
 repeat (go_big_quiet_step (fail))
 refine wpQuiet_nil ?_;clear y1 y2 x0 u0 u1 u2 u3;refine aI.aK (by kernel_rfl) rfl (fun K hK=>?_)
 simp only[ay,nth]
 refine aA ?_;go_simp;refine (UN.o _).mono ?_;rintro e w3 ⟨rfl,hb⟩;have F3:=zq (F2.o.drew.go hb);have OL3:=zq ((OL2.o.mod ((Mod.refl (fun _=>False) W2).drew) (fun _ _ h=>h)).mod (Mod.of_below hb) (fun _ _ h=>h));clear hb UN;go_simp;refine hK _ _ (fun h=>by cases h) ?_;clear hK F2 OL2;refine aI.dm (by kernel_rfl) rfl (by kernel_rfl) (fun K hK=>?_)
 simp only[ay,nth]
 refine aA ?_;go_simp;refine (kT (ud.Ok n1) 37 _).mono ?_;rintro e w' ⟨he,rfl⟩;rcases Or.symm he with ⟨hlt,rfl⟩|⟨hlt,rfl⟩
 ·exact⟨rfl,dS (by rw[ES2.o,if_neg (by rw[<-N1.o];have:=HUD.o;rw[this] at hlt;exact hlt)];rfl) (by decide) F3.o.at_⟩
 have ES3:=zq (ES2.o.trans (by rw[if_pos (by rw[<-N1.o];have:=HUD.o;rw[this] at hlt;exact hlt)]));have UDK:=zq hlt;clear ES2 he hlt;go_simp;refine hK _ _ ?_;clear hK;refine aI.bH ?_;have I0:=zq (show Ig w R0 b ((pu, 3,#[.int .i64 (kk:Int)])::(pn, 3,#[.int .i64 num])::(pd, 3,#[.int .i64 den])::rest) V L (kk:Int) num den vo L.af 0 w3 from by
  have e:L2=L.dV (kk:Int) num den 0:=by
   rw[EL2.o];unfold aH.dV;rw[qB,qB,Int.toNat_natCast,<-HPR.o,HLP.o]
  refine⟨by rw[<-e];exact F3.o,by rw[List.drop_zero,List.drop_zero],OL3.o,SEP.o,APA.o⟩)
 have y3:w3.cell? ⟨b,3,none⟩=some (.slice a3 n3 c3):=F3.o.at_.cell 0 rfl 3 (by rw[N3.o,<-E3.o];rfl);clear F3 OL3 SEP APA OB;have AVL:=zq (show L.aG.length=L.af.length from HG.o.aJ.len)
 go_wp2_with fail
 go_loopw [95] (fun i wr=>∃ k:Nat,k<=n3/\i=.int .i64 k/\∃ W',W'=wr/\Hid (Ig w R0 b ((pu, 3,#[.int .i64 (kk:Int)])::(pn, 3,#[.int .i64 num])::(pd, 3,#[.int .i64 den])::rest) V L (kk:Int) num den vo L.af k W')) (fun i _=>n3 - (intOf i).toNat)
 case atStart=>exact⟨0,Nat.zero_le _,rfl,_,rfl,I0⟩
 clear y3 I0 k0 k1;obtain⟨k,hk,rfl,W',rfl,IV⟩:=hrel;by_cases hlt:k<n3;rotate_left
 ·have hlt':¬ (k:Int)<(n3:Int):=by omega
  have GO:=zq (show fC (kk:Int) num den L.ah.length L.af L.aG=0 from by rw[<-IV.o.go,nN (l:=L.af) (by rw[<-N3.o];omega)];exact zi);have ES4:=zq (ES3.o.trans (by rw[if_pos GO.o]));have EQ:=zq (vW (u:=(kk:Int)) (num:=num) (den:=den) AVL.o (by rw[<-N3.o];omega:L.af.length<=k));have FS:=zq (show dB w R0 ((b, 57,V.cells L)::(pu, 3,#[.int .i64 (kk:Int)])::(pn, 3,#[.int .i64 num])::(pd, 3,#[.int .i64 den])::rest) V (L.split (kk:Int) num den) W' from by rw[<-EQ.o];exact IV.o.jl);have OLS:=zq IV.o.old;have SEP:=zq IV.o.sep;have APA:=zq IV.o.apart;have SGO:=zq (show dX.Ok { L.und (kk:Int) with price:=(eU num den (L.und (kk:Int)).price).1 } L.aQ.length/\fC (kk:Int) num den L.ah.length L.af L.aG=0 from ⟨by have h:=UDK.o;rw[HUD.o,N1.o] at h;rw[<-HPR.o,HLP.o];exact h,GO.o⟩);clear ES3 IV GO EQ hlt hk;obtain⟨f,hf⟩:=Zn (ku L (kk:Int) num den);obtain⟨c,hc⟩:∃ c:Pos->Int,c=fun p=>L.dG p.instr:=⟨_,rfl⟩
  have EC:=zq (show ∀ p,c p=L.dG p.instr from fun p=>by rw[hc]);have SF:=zq (show ∀ p:Pos,f p=if L.over (kk:Int) p.instr=true then some (mr num den (L.ins p.instr) p.qty) else none from fun p=>by rw[hf];rfl);rw[<-hf,<-hc] at ES4;clear hf hc;have SG:=zq (rX HG.o (u:=(kk:Int)) (num:=num) (den:=den) (by have:=hk'.o;omega) HIN.o.1 HIN.o.2.2.1 SGO.o.1 SGO.o.2);obtain⟨a5,c5,e5⟩:=FS.o.own.led.au.form;have E5:=zq e5;obtain⟨n5,hn5⟩:=Zn L.au.length;have N5:=zq hn5;have y5:W'.cell? ⟨b,5,none⟩=some (.slice a5 n5 c5):=FS.o.at_.cell 0 rfl 5 (by rw[hn5];show some V.au=_;rw[e5];rfl);have S0:=zq (show lU w R0 b ((pu, 3,#[.int .i64 (kk:Int)])::(pn, 3,#[.int .i64 num])::(pd, 3,#[.int .i64 den])::rest) V L (kk:Int) num den vo f c 0 V (L.split (kk:Int) num den) W' from ⟨by rw[qB];exact FS.o,by rw[List.drop_zero],dW.rfl,FS.o.own.led.au,OLS.o⟩);have VOL:=zq (show ∀ j,vo.ownBlock=some j->j<W'.heap.size from fun j hj=>(OLS.o.lt j hj).2);have VPL:=zq (show ∀ j,V.au.ownBlock=some j->j<W'.heap.size/\j≠b from fun j hj=>⟨(FS.o.own.au.lt j hj).2,fun e=>by subst e;exact FS.o.uq (j, 57,V.cells L) (by simp) V.au (by simp[aB.rows]) hj⟩);clear e5 hn5 OLS
  go_wp2_with fail
  go_loopw [164] (fun i wr=>∃ k:Nat,k<=n5/\i=.int .i64 k/\∃ W2,W2=wr/\Hid (∃ V' N,W'.heap.size<=W2.heap.size/\lU w R0 b ((pu, 3,#[.int .i64 (kk:Int)])::(pn, 3,#[.int .i64 num])::(pd, 3,#[.int .i64 den])::rest) V L (kk:Int) num den vo f c k V' N W2)) (fun i _=>n5 - (intOf i).toNat)
  case atStart=>exact⟨0,Nat.zero_le _,rfl,_,rfl,zq ⟨V,_,Nat.le_refl _,S0.o⟩⟩
  clear y5 S0;obtain⟨k,hk,rfl,W2,rfl,IV0⟩:=hrel;obtain⟨V',N,HSZ0,IV1⟩:=IV0.o;have IV:=zq IV1;have HSZ:=zq HSZ0;clear IV0 IV1 HSZ0;by_cases hlt:k<n5;rotate_left
  ·have hlt':¬ (k:Int)<(n5:Int):=by omega
   have GO:=zq (show dD f c 1 L.au (L.split (kk:Int) num den)=(N,0) from by rw[<-IV.o.go,nN (by rw[<-N5.o];omega)];rfl);have ES5:=zq (ES4.o.trans (by rw[if_pos (by rw[GO.o]),GO.o]));have EQ:=zq (Ag (l:=L.au) (m:=bn L (kk:Int) num den L.au) (k:=k) (eX _ _ _ _ _) (by rw[<-N5.o];omega));have FK:=zq (show dB w R0 ((b, 57,V'.cells { N with au:=bn L (kk:Int) num den L.au })::(pu, 3,#[.int .i64 (kk:Int)])::(pn, 3,#[.int .i64 num])::(pd, 3,#[.int .i64 den])::rest) V' { N with au:=bn L (kk:Int) num den L.au } W2 from by have h:=IV.o.jl;rw[EQ.o] at h;exact h);have CA:=zq IV.o.dI;clear ES4 IV GO EQ hlt hk FS SEP APA VOL VPL HSZ;obtain⟨M,hM⟩:∃ l:aH,l={ N with au:=bn L (kk:Int) num den L.au }:=⟨_,rfl⟩;have EM:=zq hM;rw[<-hM] at FK;have KP:=zq (JD w W2 R0 b _ V' M FK.o (by rw[hM];show (bn _ _ _ _ _).length<=1000;rw[eX];have:=HG.o.au.len;omega) 30 #[] (enters_of Tryz.func30 (by kernel_rfl) rfl) (fun p=>decide (p.qty≠0)) (fun W3 F p hp=>Ad W3 p));clear hM eg
   go_wp2_with fail
   refine KP.o.mono ?_;rintro e w3 ⟨rfl,V3,F0⟩;obtain⟨M3,hM3⟩:∃ l:aH,l={ M with au:=M.au.filter (fun p=>decide (p.qty≠0)) }:=⟨_,rfl⟩;have FM:=zq (show dB w R0 ((b, 57,V3.cells M3)::(pu, 3,#[.int .i64 (kk:Int)])::(pn, 3,#[.int .i64 num])::(pd, 3,#[.int .i64 den])::rest) V3 M3 w3 from by rw[hM3];exact F0);have EM3:=zq (show M3={ N with au:=(bn L (kk:Int) num den L.au).filter (fun p=>decide (p.qty≠0)) } from by rw[hM3,EM.o]);have M3L:=zq (show M3.aJ=L.aJ/\M3.orders=L.orders/\M3.af.length=L.af.length from ⟨by rw[EM3.o];exact CA.o.aJ,by rw[EM3.o];exact CA.o.orders,by rw[EM3.o];show N.af.length=_;rw[CA.o.af];show (gK _ _ _ _).length=_;rw[fV]⟩);have M3O:=zq (show ∀ n:Nat,aH.over M3 (kk:Int) n=L.over (kk:Int) n from fun n=>by
    have h1:aH.ins M3 (n:Int)=(L.split (kk:Int) num den).ins (n:Int):=by rw[EM3.o];exact CA.o.ins_eq (n:Int)
    unfold aH.over;rw[h1,qM])
   clear F0 hM3 FK KP;obtain⟨a8,c8,e8⟩:=FM.o.own.led.aJ.form;rw[M3L.o.1] at e8;have E8:=zq e8;obtain⟨n8,hn8⟩:=Zn L.aJ.length;have N8:=zq hn8;have y8:w3.cell? ⟨b,8,none⟩=some (.slice a8 n8 c8):=by rw[hn8,<-e8];exact FM.o.at_.cell 0 rfl 8 rfl
   clear e8 hn8
   go_wp2_with fail
   go_loopw [12,201] (fun o i wr=>∃ k:Nat,k<=n8/\i=.int .i64 k/\∃ a n c,o=.slice a n c/\∃ W4,W4=wr/\Hid (wM w3 L (kk:Int) num den k (.slice a n c) W4)) (fun _ i _=>n8 - (intOf i).toNat)
   case atStart=>exact⟨0,Nat.zero_le _,rfl,none,0,0,rfl,_,rfl,zq ⟨Below.refl _ _,by simpa [bn] using aV.nil _ _ _ _ _,by rw[List.drop_zero]⟩⟩
   clear y8;obtain⟨k,hk,rfl,a,n,c,rfl,W4,rfl,IV⟩:=hrel;by_cases hlt:k<n8;rotate_left
   ·have hlt':¬ (k:Int)<(n8:Int):=by omega
    have LO:=zq (show dY L (kk:Int) num den L.aJ=0 from by rw[<-IV.o.go,nN (by rw[<-N8.o];omega)];rfl);have ES6:=zq (ES5.o.trans (by rw[if_pos LO.o]));have LW:=zq IV.o.low;have LR:=zq (show aV W4 w3.heap.size 72 3 Pos.cells (.slice a n c) ((bn L (kk:Int) num den L.aJ).filter (fun p=>decide (0<p.qty))) from by have h:=IV.o.own;rw[List.take_of_length_le (by rw[<-N8.o];omega)] at h;exact h);have F4:=zq (FM.o.go LW.o);clear ES5 IV LO hlt hk;obtain⟨a6,c6,e6⟩:=F4.o.own.led.orders.form;rw[M3L.o.2.1] at e6;have E6:=zq e6;obtain⟨n6,hn6⟩:=Zn L.orders.length;have N6:=zq hn6;have y6:W4.cell? ⟨b,6,none⟩=some (.slice a6 n6 c6):=by rw[hn6,<-e6];exact F4.o.at_.cell 0 rfl 6 rfl
    obtain⟨WO,rfl⟩:=Zn W4;clear e6 hn6
    go_wp2_with fail
    go_loopw [15,230] (fun o i wr=>∃ k:Nat,k<=n6/\i=.int .i64 k/\∃ a n c,o=.slice a n c/\∃ W5,W5=wr/\Hid (KI WO WO.heap.size L (kk:Int) k (.slice a n c) W5)) (fun _ i _=>n6 - (intOf i).toNat)
    case atStart=>exact⟨0,Nat.zero_le _,rfl,none,0,0,rfl,_,rfl,zq ⟨Below.refl _ _,by simpa using aV.nil _ _ _ _ _⟩⟩
    clear y6;obtain⟨k,hk,rfl,a',n',c',rfl,W5,rfl,IV⟩:=hrel;by_cases hlt:k<n6;rotate_left
    ·have hlt':¬ (k:Int)<(n6:Int):=by omega
     have OO:=zq (show aV W5 WO.heap.size 74 5 Ord.cells (.slice a' n' c') (L.orders.filter (fun x=>!L.over (kk:Int) x.instr)) from by have h:=IV.o.own;rw[List.take_of_length_le (by rw[<-N6.o];omega)] at h;exact h);have L5:=zq (LW.o.trans (IV.o.low.mono LW.o.size));have LR5:=zq (LR.o.mod (Mod.of_below IV.o.low) (fun _ _ h=>h));have F5:=zq (FM.o.go L5.o);have G1:=zq (show dB w R0 ((b, 57,({ V3 with aJ:=.slice a n c }:aB).cells M3)::(pu, 3,#[.int .i64 (kk:Int)])::(pn, 3,#[.int .i64 num])::(pd, 3,#[.int .i64 den])::rest) { V3 with aJ:=.slice a n c } { M3 with aJ:=(bn L (kk:Int) num den L.aJ).filter (fun p=>decide (0<p.qty)) } (W5.setCell ⟨b,8,none⟩ (.slice a n c)) from FM.o.Pn (Mod.of_below L5.o) (LR5.o.base FM.o.rb) (fun j hj=>(LR5.o.lt j hj).1));have BL:=zq (show b<w3.heap.size from FM.o.at_.lt (b, 57,V3.cells M3) (by simp));have WL:=zq (show w3.heap.size<=WO.heap.size from LW.o.size);have OO2:=zq (OO.o.mod ((Mod.refl (fun k=>k=b) W5).setCell (p:=⟨b,8,none⟩) (.slice a n c) (fun _=>rfl)) (fun j hj e=>by have:=(OO.o.lt j hj).1;have:=BL.o;have:=WL.o;omega));have G2:=zq (show dB w R0 ((b, 57,({ V3 with aJ:=.slice a n c,orders:=.slice a' n' c' }:aB).cells M3)::(pu, 3,#[.int .i64 (kk:Int)])::(pn, 3,#[.int .i64 num])::(pd, 3,#[.int .i64 den])::rest) { V3 with aJ:=.slice a n c,orders:=.slice a' n' c' } { M3 with aJ:=(bn L (kk:Int) num den L.aJ).filter (fun p=>decide (0<p.qty)),orders:=L.orders.filter (fun x=>!L.over (kk:Int) x.instr) } ((W5.setCell ⟨b,8,none⟩ (.slice a n c)).setCell ⟨b,6,none⟩ (.slice a' n' c')) from G1.o.rQ 0 rfl (OO2.o.base (by have:=FM.o.rb;have:=WL.o;omega)) (fun y hy j h1 h2=>by
      have h3:=(OO.o.lt j h2).1;have h4:=WL.o;have e:({ V3 with aJ:=.slice a n c }:aB).rows=V3.rows.set 7 (.slice a n c):=rfl;rw[e] at hy;rcases List.mem_or_eq_of_mem_set hy with hy|rfl
      ·have:=(FM.o.own.PU y hy j h1).2;omega
      ·have:=(LR.o.lt j h1).2;omega) (fun x hx e=>by
      have h3:=(OO.o.lt _ e).1;have h4:=WL.o;have h5:x.1<w3.heap.size:=by
       rcases List.mem_cons.1 hx with rfl|hx
       ·exact BL.o
       exact FM.o.at_.lt x (List.mem_cons_of_mem _ hx)
      omega))
     have y8:=F5.o.at_.cell 0 rfl 8 rfl;have z8:=F5.o.at_.free 0 rfl 8;have y6:=G1.o.at_.cell 0 rfl 6 rfl;have z6:=G1.o.at_.free 0 rfl 6;clear IV hlt hk
     go_upto_region 41 with (fail)
     obtain⟨WZ,hWZ⟩:=Zn ((W5.setCell ⟨b,8,none⟩ (.slice a n c)).setCell ⟨b,6,none⟩ (.slice a' n' c'));rw[<-hWZ] at G2;rw[<-hWZ];clear hWZ y8 z8 y6 z6;have x0:WZ.cell? ⟨pu,0,none⟩=some (.int .i64 (kk:Int)):=G2.o.at_.cell 1 rfl 0 rfl
     go_wp2_with fail
     go_ret;refine Iq (V:={ V3 with aJ:=.slice a n c,orders:=.slice a' n' c' }) (L:={ M3 with aJ:=(bn L (kk:Int) num den L.aJ).filter (fun p=>decide (0<p.qty)),orders:=L.orders.filter (fun x=>!L.over (kk:Int) x.instr) }) ?_ G2.o;rw[ES6.o,EM3.o]
    have hlt':(k:Int)<(n6:Int):=by omega
    have n32:n6<=32:=by rw[N6.o];exact HG.o.orders.len
    have LT:=zq hlt;obtain⟨p,hp⟩:∃ p,L.orders[k]?=some p:=⟨_,Zg (by rw[<-N6.o];exact hlt)⟩;have HP:=zq hp;have F5:=zq (FM.o.go (LW.o.trans (IV.o.low.mono LW.o.size)));have hR:=F5.o.own.led.orders;rw[M3L.o.2.1] at hR;obtain⟨bp,op,cp,ep,hc⟩:=hR.place hp;have ea:a6=some ⟨bp,op,none⟩:=by have:=E6.o;rw[ep] at this;injection this with h _ _;exact h.symm
    obtain⟨p2,p3,p4,p5,p6,p7,_⟩:=HG.o.orders.all p (List.mem_of_getElem? hp);obtain⟨pi,hpn⟩:∃ x:Nat,p.instr=x:=⟨p.instr.toNat,by omega⟩;have HPN:=zq (And.intro hpn (show pi<L.af.length from by omega));have q0:W5.cell? ⟨bp,op+k*5,none⟩=some (.int .i64 p.ak):=by have:=hc 0 _ rfl;simpa using this
    have q1:=hc 1 _ rfl;have q2:W5.cell? ⟨bp,op+k*5+2,none⟩=some (.int .i64 (pi:Int)):=by rw[<-hpn];exact hc 2 _ rfl
    have q3:=hc 3 _ rfl;have q4:=hc 4 _ rfl;subst ea;clear hp hc ep hR hlt hk p2 p3 p4 p5 p6 p7 hpn
    go_upto_region 37 with (fail)
    obtain⟨W6,hW6⟩:=Zn (W5.alloc (.cells #[.int .i64 p.ak,.int .i64 p.id,.int .i64 (pi:Int),.int .i64 p.qty,.int .i64 p.price] 74));obtain⟨bq,hbq⟩:=Zn W5.heap.size;have g6:=zq (show W6.heap[bq]?=some (.cells #[.int .i64 p.ak,.int .i64 p.id,.int .i64 (pi:Int),.int .i64 p.qty,.int .i64 p.price] 74 (0,0)) from by rw[hW6,hbq];exact heap_alloc_last _ _);have B6:=zq (show Below W5.heap.size W5 W6 from by rw[hW6];exact Zb);have F6:=zq (F5.o.go B6.o);rw[<-hW6,<-hbq];clear hW6 hbq q0 q1 q2 q3 q4;have q2:W6.cell? ⟨bq,2,none⟩=some (.int .i64 (pi:Int)):=cell_of_heap g6.o 2;have x0:W6.cell? ⟨pu,0,none⟩=some (.int .i64 (kk:Int)):=F6.o.at_.cell 1 rfl 0 rfl;have COV:=zq (nU W6 b V3 M3 (F6.o.at_.get 0 rfl) F6.o.own.led pi (by rw[M3L.o.2.2];exact HPN.o.2) (kk:Int));obtain⟨ov,hov⟩:=Zn (L.over (kk:Int) pi);have EOV:=zq hov;rw[M3O.o,<-hov] at COV;clear hov
    go_wp2_with fail
    refine COV.o.mono ?_;rintro e w' ⟨rfl,rfl⟩;clear x0 COV q2
    cases hb:ov with
    | true =>
      subst hb;have NX:=zq (show KI WO WO.heap.size L (kk:Int) (k+1) (.slice a' n' c') W6 from ⟨IV.o.low.trans (B6.o.mono IV.o.low.size),by
       have h:=IV.o.own.mod (Mod.of_below B6.o) (fun _ _ h=>h);rw[List.take_add_one,HP.o,List.filter_append]
       simp only[Option.toList,List.filter_cons,List.filter_nil,HPN.o.1,<-EOV.o]
       simpa using h⟩)
      go_wp2_with fail
      go_roundw
      case rel=>exact⟨k+1,by have:=LT.o;omega,by go_num,a',n',c',rfl,_,rfl,NX⟩
      case measure=>have:=LT.o;simp[intOf];omega
    | false =>
      subst hb;have q0:W6.cell? ⟨bq,0,none⟩=some (.int .i64 p.ak):=cell_of_heap g6.o 0;have q1:W6.cell? ⟨bq,1,none⟩=some (.int .i64 p.id):=cell_of_heap g6.o 1;have q2:W6.cell? ⟨bq,2,none⟩=some (.int .i64 (pi:Int)):=cell_of_heap g6.o 2;have q3:W6.cell? ⟨bq,3,none⟩=some (.int .i64 p.qty):=cell_of_heap g6.o 3;have q4:W6.cell? ⟨bq,4,none⟩=some (.int .i64 p.price):=cell_of_heap g6.o 4;obtain⟨v',w7,hrun,ho,hm,hbk⟩:=wQ W6 WO.heap.size (.slice a' n' c') _ (IV.o.own.mod (Mod.of_below B6.o) (fun _ _ h=>h)) (by have:=IV.o.low.size;have:=B6.o.size;omega) p #[.int .i64 p.ak,.int .i64 p.id,.int .i64 (pi:Int),.int .i64 p.qty,.int .i64 p.price] (by show _=[Value.int .i64 p.ak,.int .i64 p.id,.int .i64 p.instr,.int .i64 p.qty,.int .i64 p.price];rw[HPN.o.1]) (by
       have h1:=List.length_filter_le (fun x:Ord=>!L.over (kk:Int) x.instr) (L.orders.take k);have h3:=List.length_take_le k L.orders;have h4:=HG.o.orders.len;have h5:=LT.o;have h6:=N6.o;omega)
      obtain⟨a2',c2',hv',_⟩:=ho.form;obtain⟨n2',hn'⟩:∃ n',n'=((L.orders.take k).filter (fun x=>!L.over (kk:Int) x.instr)++[p]).length:=⟨_,rfl⟩;rw[<-hn'] at hv';subst hv';have RUN:=zq hrun;have NX:=zq (show KI WO WO.heap.size L (kk:Int) (k+1) (.slice a2' n2' c2') w7 from by
       refine⟨?_,?_⟩
       ·have hm2:Mod (fun k=>WO.heap.size<=k) W5 w7:=((Mod.of_below B6.o).mono (T:=fun k=>WO.heap.size<=k) (fun _ _ h=>h.elim)).trans hm (fun j _ h=>(IV.o.own.lt j h).1);exact ((Mod.of_below IV.o.low).trans hm2 (fun j hj h=>absurd h (by omega))).aU
       rw[List.take_add_one,HP.o,List.filter_append]
       simp only[Option.toList,List.filter_cons,List.filter_nil,HPN.o.1,<-EOV.o]
       simpa using ho)
      clear hrun ho hm hbk hn'
      go_wp2_with (at_builtin;refine wpList_append_run rfl (.tmp 240) (.tmp 242) 27 rfl rfl rfl RUN.o ?_)
      go_roundw
      case rel=>exact⟨k+1,by have:=LT.o;omega,by go_num,a2',n2',c2',rfl,_,rfl,NX⟩
      case measure=>have:=LT.o;simp[intOf];omega
   have hlt':(k:Int)<(n8:Int):=by omega
   have n32:n8<=32:=by rw[N8.o];exact HG.o.aJ.Ae
   have LT:=zq hlt;obtain⟨p,hp⟩:∃ p,L.aJ[k]?=some p:=⟨_,Zg (by rw[<-N8.o];exact hlt)⟩;have HP:=zq hp;have F4:=zq (FM.o.go IV.o.low);have hR:=F4.o.own.led.aJ;rw[M3L.o.1] at hR;obtain⟨bp,op,cp,ep,hc⟩:=hR.place hp;have ea:a8=some ⟨bp,op,none⟩:=by have:=E8.o;rw[ep] at this;injection this with h _ _;exact h.symm
   obtain⟨p2,p3,p4,p5,p6,p7⟩:=HG.o.aJ.all p (List.mem_of_getElem? hp);obtain⟨pa,hpa⟩:∃ x:Nat,p.ak=x:=⟨p.ak.toNat,by omega⟩;obtain⟨pi,hpn⟩:∃ x:Nat,p.instr=x:=⟨p.instr.toNat,by omega⟩;have HPA:=zq (And.intro hpa (show 2<=pa from by omega));have HPN:=zq (And.intro hpn (show pi<L.af.length from by omega));have HPQ:=zq (And.intro p6 p7);have q0:W4.cell? ⟨bp,op+k*3,none⟩=some (.int .i64 (pa:Int)):=by have:=hc 0 _ rfl;rw[<-hpa];simpa using this
   have q1:W4.cell? ⟨bp,op+k*3+1,none⟩=some (.int .i64 (pi:Int)):=by rw[<-hpn];exact hc 1 _ rfl
   have q2:=hc 2 _ rfl;subst ea;clear hp hc ep hR hlt hk p2 p3 p4 p5 p6 p7 hpa hpn;obtain⟨pq,hpq⟩:=Zn p.qty;have PQ:=zq hpq;rw[<-hpq] at q2;clear hpq
   go_upto_region 28 with (fail)
   obtain⟨W5,hW5⟩:=Zn (W4.alloc (.cells #[.int .i64 (pa:Int),.int .i64 (pi:Int),.int .i64 pq] 72));obtain⟨bq,hbq⟩:=Zn W4.heap.size;have HBQ:=zq hbq;have g5:=zq (show W5.heap[bq]?=some (.cells #[.int .i64 (pa:Int),.int .i64 (pi:Int),.int .i64 pq] 72 (0,0)) from by rw[hW5,hbq];exact heap_alloc_last _ _);have B5:=zq (show Below W4.heap.size W4 W5 from by rw[hW5];exact Zb);have F5:=zq (F4.o.go B5.o);rw[<-hW5,<-hbq];clear hW5 hbq q0 q1 q2;have q1:W5.cell? ⟨bq,1,none⟩=some (.int .i64 (pi:Int)):=cell_of_heap g5.o 1;have x0:W5.cell? ⟨pu,0,none⟩=some (.int .i64 (kk:Int)):=F5.o.at_.cell 1 rfl 0 rfl;have COV:=zq (nU W5 b V3 M3 (F5.o.at_.get 0 rfl) F5.o.own.led pi (by rw[M3L.o.2.2];exact HPN.o.2) (kk:Int));obtain⟨ov,hov⟩:=Zn (L.over (kk:Int) pi);have EOV:=zq hov;rw[M3O.o,<-hov] at COV;clear hov
   go_wp2_with fail
   refine COV.o.mono ?_;rintro e w' ⟨rfl,rfl⟩;clear x0 COV q1
   cases hb:ov with
   | false =>
     subst hb;obtain⟨W6,rfl⟩:=Zn W5;have g6:=zq g5.o;have MW6:=zq (show Mod (fun k=>W4.heap.size<=k) W4 W6 from (Mod.of_below B5.o).mono (fun _ _ h=>h.elim));have QEQ:=zq (show pq=if L.over (kk:Int) p.instr=true then (bY num den p.qty).1 else p.qty from by rw[HPN.o.1,<-EOV.o,if_neg (by decide),PQ.o]);have QZ:=zq (show L.over (kk:Int) p.instr=true->(bY num den p.qty).2=0 from fun h=>by rw[HPN.o.1,<-EOV.o] at h;cases h);have HPOS:=zq (show 0<pq from by have:=HPQ.o;have:=PQ.o;omega);have q2:W6.cell? ⟨bq,2,none⟩=some (.int .i64 pq):=cell_of_heap g6.o 2;have dp:decide (0<pq)=true:=decide_eq_true HPOS.o;have q0:W6.cell? ⟨bq,0,none⟩=some (.int .i64 (pa:Int)):=cell_of_heap g6.o 0;have q1:W6.cell? ⟨bq,1,none⟩=some (.int .i64 (pi:Int)):=cell_of_heap g6.o 1;obtain⟨v',w7,hrun,ho,hm,hbk⟩:=sJ W6 w3.heap.size (.slice a n c) _ (IV.o.own.mod MW6.o (fun j hj h=>absurd (IV.o.own.lt j hj).2 (by omega))) (by have:=IV.o.low.size;have:=MW6.o.size;omega) { p with qty:=pq } #[.int .i64 (pa:Int),.int .i64 (pi:Int),.int .i64 pq] (by show _=[Value.int .i64 p.ak,.int .i64 p.instr,.int .i64 pq];rw[HPA.o.1,HPN.o.1]) (by
      have h1:=List.length_filter_le (fun p:Pos=>decide (0<p.qty)) (bn L (kk:Int) num den (L.aJ.take k));have h2:(bn L (kk:Int) num den (L.aJ.take k)).length=(L.aJ.take k).length:=eX _ _ _ _ _;have h3:=List.length_take_le k L.aJ;have h4:=HG.o.aJ.Ae;have h5:=LT.o;have h6:=N8.o;omega)
     obtain⟨a',c',hv',_⟩:=ho.form;obtain⟨n',hn'⟩:∃ n',n'=((bn L (kk:Int) num den (L.aJ.take k)).filter (fun p=>decide (0<p.qty))++[({ p with qty:=pq }:Pos)]).length:=⟨_,rfl⟩;rw[<-hn'] at hv';subst hv';have RUN:=zq hrun;have NX:=zq (show wM w3 L (kk:Int) num den (k+1) (.slice a' n' c') w7 from by
      refine IV.o.next HP.o (q:=pq) QEQ.o QZ.o ?_ (by rw[if_pos (by simpa using HPOS.o)];exact ho);have hm2:Mod (fun k=>w3.heap.size<=k) W4 w7:=((MW6.o.mono (T:=fun k=>w3.heap.size<=k) (fun _ _ h=>by have:=IV.o.low.size;omega))).trans hm (fun j _ h=>by
       have:=(IV.o.own.lt j h).1;omega)
      exact ((Mod.of_below IV.o.low).trans hm2 (fun j hj h=>absurd h (by omega))).aU)
     clear hrun ho hm hbk hn'
     go_wp2_with (at_builtin;refine wpList_append_run rfl (.tmp 219) (.tmp 221) 29 rfl rfl rfl RUN.o ?_)
     go_roundw
     case rel=>exact⟨k+1,by have:=LT.o;omega,by go_num,a',n',c',rfl,_,rfl,NX⟩
     case measure=>have:=LT.o;simp[intOf];omega
   | true =>
     subst hb;have q2:W5.cell? ⟨bq,2,none⟩=some (.int .i64 pq):=cell_of_heap g5.o 2;have sn:W5.cell? ⟨pn,0,none⟩=some (.int .i64 num):=F5.o.at_.cell 2 rfl 0 rfl;have sd:W5.cell? ⟨pd,0,none⟩=some (.int .i64 den):=F5.o.at_.cell 3 rfl 0 rfl;have SH:=zq (fun W=>vJ pq num den (by have:=HPQ.o;have:=PQ.o;omega) HIN.o.1 HIN.o.2.2.1 ⟨by have:=HPQ.o;have:=PQ.o;omega,by have:=HPQ.o;have:=PQ.o;omega⟩ HN.o.1 HN.o.2 W);obtain⟨qv,eq',hq'⟩:∃ x e,bY num den pq=(x,e):=⟨_,_,rfl⟩;have HQ':=zq hq';rw[hq'] at SH;clear hq'
     go_wp2_with fail
     refine (SH.o _).mono ?_;rintro e w6 ⟨ho,hb⟩;have F6:=zq (F5.o.go hb);have g6:=zq ((Mod.of_below hb).heap g5.o (fun h=>h));have M6:=zq ((Mod.of_below B5.o).trans (Mod.of_below hb) (fun _ _ h=>h));clear hb SH q2 sn sd;rcases ho with ⟨hz,rfl⟩|⟨hz,rfl⟩;rotate_left
     ·have LE:=zq (show dY L (kk:Int) num den L.aJ=eq' from by rw[<-IV.o.go,drop_at HP.o];simp only[dY,HPN.o.1,<-EOV.o,if_true,<-PQ.o,HQ'.o,if_neg hz]);have HZ:=zq hz;clear hz
      go_wp2_with fail
      exact⟨rfl,dS (by rw[ES5.o,if_neg (by rw[LE.o];exact HZ.o),LE.o];rfl) HZ.o F6.o.at_⟩
     try simp only at hz
     subst hz;have q2:w6.cell? ⟨bq,2,none⟩=some (.int .i64 pq):=cell_of_heap g6.o 2;have z2:=aP g6.o 2;have g7:=zq (bC g6.o 2 (.int .i64 qv));have M7:=zq (show Mod (fun k=>W4.heap.size<=k) W4 (w6.setCell ⟨bq,2,none⟩ (.int .i64 qv)) from (M6.o.mono (T:=fun k=>W4.heap.size<=k) (fun _ _ h=>h.elim)).trans ((Mod.refl (fun k=>k=bq) w6).setCell _ (fun _=>rfl)) (fun j _ e=>by have:=HBQ.o;omega));have QEQ:=zq (show qv=if L.over (kk:Int) p.instr=true then (bY num den p.qty).1 else p.qty from by rw[HPN.o.1,<-EOV.o,if_pos rfl,<-PQ.o,HQ'.o]);have QZ:=zq (show L.over (kk:Int) p.instr=true->(bY num den p.qty).2=0 from fun _=>by rw[<-PQ.o,HQ'.o])
     go_upto_region 30 with (fail)
     obtain⟨W6,hW6⟩:=Zn (w6.setCell ⟨bq,2,none⟩ (.int .i64 qv));rw[<-hW6] at g7 M7;have g6:=zq (show W6.heap[bq]?=some (.cells #[.int .i64 (pa:Int),.int .i64 (pi:Int),.int .i64 qv] 72 (0,0)) from by simpa using g7.o);have MW6:=zq M7.o;rw[<-hW6];clear hW6 q2 z2 g7;have q2:W6.cell? ⟨bq,2,none⟩=some (.int .i64 qv):=cell_of_heap g6.o 2;by_cases hp0:0<qv
     ·have HPOS:=zq hp0;have dp:decide (0<qv)=true:=decide_eq_true hp0;clear hp0;have q0:W6.cell? ⟨bq,0,none⟩=some (.int .i64 (pa:Int)):=cell_of_heap g6.o 0;have q1:W6.cell? ⟨bq,1,none⟩=some (.int .i64 (pi:Int)):=cell_of_heap g6.o 1;obtain⟨v',w7,hrun,ho,hm,hbk⟩:=sJ W6 w3.heap.size (.slice a n c) _ (IV.o.own.mod MW6.o (fun j hj h=>absurd (IV.o.own.lt j hj).2 (by omega))) (by have:=IV.o.low.size;have:=MW6.o.size;omega) { p with qty:=qv } #[.int .i64 (pa:Int),.int .i64 (pi:Int),.int .i64 qv] (by show _=[Value.int .i64 p.ak,.int .i64 p.instr,.int .i64 qv];rw[HPA.o.1,HPN.o.1]) (by
       have h1:=List.length_filter_le (fun p:Pos=>decide (0<p.qty)) (bn L (kk:Int) num den (L.aJ.take k));have h2:(bn L (kk:Int) num den (L.aJ.take k)).length=(L.aJ.take k).length:=eX _ _ _ _ _;have h3:=List.length_take_le k L.aJ;have h4:=HG.o.aJ.Ae;have h5:=LT.o;have h6:=N8.o;omega)
      obtain⟨a',c',hv',_⟩:=ho.form;obtain⟨n',hn'⟩:∃ n',n'=((bn L (kk:Int) num den (L.aJ.take k)).filter (fun p=>decide (0<p.qty))++[({ p with qty:=qv }:Pos)]).length:=⟨_,rfl⟩;rw[<-hn'] at hv';subst hv';have RUN:=zq hrun;have NX:=zq (show wM w3 L (kk:Int) num den (k+1) (.slice a' n' c') w7 from by
       refine IV.o.next HP.o (q:=qv) QEQ.o QZ.o ?_ (by rw[if_pos (by simpa using HPOS.o)];exact ho);have hm2:Mod (fun k=>w3.heap.size<=k) W4 w7:=((MW6.o.mono (T:=fun k=>w3.heap.size<=k) (fun _ _ h=>by have:=IV.o.low.size;omega))).trans hm (fun j _ h=>by
        have:=(IV.o.own.lt j h).1;omega)
       exact ((Mod.of_below IV.o.low).trans hm2 (fun j hj h=>absurd h (by omega))).aU)
      clear hrun ho hm hbk hn'
      go_wp2_with (at_builtin;refine wpList_append_run rfl (.tmp 219) (.tmp 221) 29 rfl rfl rfl RUN.o ?_)
      go_roundw
      case rel=>exact⟨k+1,by have:=LT.o;omega,by go_num,a',n',c',rfl,_,rfl,NX⟩
      case measure=>have:=LT.o;simp[intOf];omega
     have dp:decide (0<qv)=false:=decide_eq_false hp0;have NX:=zq (show wM w3 L (kk:Int) num den (k+1) (.slice a n c) W6 from by
      refine IV.o.next HP.o (q:=qv) QEQ.o QZ.o ?_ ?_
      ·exact ((Mod.of_below IV.o.low).trans (MW6.o.mono (T:=fun k=>w3.heap.size<=k) (fun _ _ h=>by have:=IV.o.low.size;omega)) (fun j hj h=>absurd h (by omega))).aU
      rw[if_neg (by simpa using hp0),List.append_nil];exact IV.o.own.mod MW6.o (fun j hj h=>absurd (IV.o.own.lt j hj).2 (by omega)))
     clear hp0
     go_wp2_with fail
     go_roundw
     case rel=>exact⟨k+1,by have:=LT.o;omega,by go_num,a,n,c,rfl,_,rfl,NX⟩
     case measure=>have:=LT.o;simp[intOf];omega
  have hlt':(k:Int)<(n5:Int):=by omega
  have n64:n5<=64:=by rw[N5.o];exact HG.o.au.len
  have LT:=zq hlt;obtain⟨p,hp⟩:∃ p,L.au[k]?=some p:=⟨_,Zg (by rw[<-N5.o];exact hlt)⟩;have HP:=zq hp;obtain⟨bp,op,cp,ep,hc⟩:=IV.o.row.place hp;have ea:a5=some ⟨bp,op,none⟩:=by have:=E5.o;rw[show (L.split (kk:Int) num den).au=L.au from rfl,ep] at this;injection this with h _ _;exact h.symm
  obtain⟨p2,p3,p4,p5,p6,p7,p8⟩:=HG.o.au.all p (List.mem_of_getElem? hp);obtain⟨pa,hpa⟩:∃ x:Nat,p.ak=x:=⟨p.ak.toNat,by omega⟩;obtain⟨pi,hpn⟩:∃ x:Nat,p.instr=x:=⟨p.instr.toNat,by omega⟩;have HPA:=zq (And.intro hpa (show 2<=pa/\pa<L.ai.length from ⟨by omega,by omega⟩));have HPN:=zq (And.intro hpn (show pi<L.af.length from by omega));have HPQ:=zq (And.intro p7 p8);have q0:W2.cell? ⟨bp,op+k*3,none⟩=some (.int .i64 (pa:Int)):=by have:=hc 0 _ rfl;rw[<-hpa];simpa using this
  have q1:W2.cell? ⟨bp,op+k*3+1,none⟩=some (.int .i64 (pi:Int)):=by rw[<-hpn];exact hc 1 _ rfl
  have q2:=hc 2 _ rfl;subst ea;have SFp:=zq (SF.o p);clear hp hc ep hlt hk p2 p3 p4 p5 p6 p7 p8 hpa hpn;obtain⟨pq,hpq⟩:=Zn p.qty;have PQ:=zq hpq;rw[<-hpq] at q2;rw[HPN.o.1,<-hpq] at SFp;clear hpq;have IP:=zq (IV.o.more 50 #[.int .i64 (pa:Int),.int .i64 (pi:Int),.int .i64 pq]);have PO:=zq (show aH.gZ { N with au:=mix L.au (bn L (kk:Int) num den L.au) k } from (IV.o.dI.pJ SG.o.pJ).au (by rw[oO (eX _ _ _ _ _),IV.o.dI.au];rfl));have MN:=zq (show pi<N.af.length from by rw[IV.o.dI.af];show pi<(gK _ _ _ _).length;rw[fV];exact HPN.o.2);have MI:=zq (show aH.ins { N with au:=mix L.au (bn L (kk:Int) num den L.au) k } (pi:Int)=(L.split (kk:Int) num den).ins (pi:Int) from IV.o.dI.ins_eq (pi:Int))
  go_upto_region 19 with (fail)
  obtain⟨W3,hW3⟩:=Zn (W2.alloc (.cells #[.int .i64 (pa:Int),.int .i64 (pi:Int),.int .i64 pq] 50));obtain⟨bq,hbq⟩:=Zn W2.heap.size;have S3:=zq (show W2.heap.size<=W3.heap.size from by rw[hW3];simp);rw[<-hW3,<-hbq] at IP;rw[<-hW3,<-hbq];have HBQ:=zq (show W'.heap.size<=bq from by rw[hbq];exact HSZ.o);clear hW3 hbq q0 q1 q2;have q1:W3.cell? ⟨bq,1,none⟩=some (.int .i64 (pi:Int)):=IP.o.jl.at_.cell 1 rfl 1 rfl;have x0:W3.cell? ⟨pu,0,none⟩=some (.int .i64 (kk:Int)):=IP.o.jl.at_.cell 2 rfl 0 rfl;have COV:=zq (nU W3 b V' { N with au:=mix L.au (bn L (kk:Int) num den L.au) k } (IP.o.jl.at_.get 0 rfl) IP.o.jl.own.led pi MN.o (kk:Int));obtain⟨ov,hov⟩:=Zn (L.over (kk:Int) pi);have EOV:=zq hov;rw[show aH.over { N with au:=mix L.au (bn L (kk:Int) num den L.au) k } (kk:Int) pi=ov from by rw[hov];unfold aH.over;rw[MI.o,qM]] at COV;rw[<-hov] at SFp;clear hov
  go_wp2_with fail
  refine COV.o.mono ?_;rintro e w' ⟨rfl,rfl⟩;clear q1 x0 COV
  cases hb:ov with
  | false =>
    subst hb;have NX:=zq ((IP.o.skip HP.o (by rw[SFp.o];rfl) (by rw[HPN.o.1,<-EOV.o];decide)).less);have HS2:=zq (show W'.heap.size<=W3.heap.size from Nat.le_trans HSZ.o S3.o)
    go_wp2_with fail
    go_roundw
    case rel=>exact⟨k+1,by have:=LT.o;omega,by go_num,_,rfl,zq ⟨V',N,HS2.o,NX.o⟩⟩
    case measure=>have:=LT.o;simp[intOf];omega
  | true =>
    subst hb;obtain⟨i,hi⟩:=Zn (L.ins (pi:Int));have IOK:=zq (show i.Ok L.ah.length from by rw[hi];exact HG.o.xw HPN.o.2);have LI:=zq (show L.af[pi]?=some i from by rw[hi];exact aH.jE HPN.o.2);have MI2:=zq (show aH.ins { N with au:=mix L.au (bn L (kk:Int) num den L.au) k } (pi:Int)=kS num den i from by rw[MI.o,hi];exact Ku HPN.o.2 EOV.o.symm);rw[<-hi] at SFp;obtain⟨cu,hcu⟩:∃ cu:Nat,L.dG pi=cu/\cu<L.aQ.length:=HG.o.pJ.nK HPN.o.2;have HCU:=zq hcu;have MCU:=zq (show aH.dG { N with au:=mix L.au (bn L (kk:Int) num den L.au) k } (pi:Int)=(cu:Int) from by
     have:=IV.o.dI.dG (pi:Int)
     show N.dG _=_
     rw[this,DZ HG.o _ _ _ HPN.o.2,hcu.1])
    have SP:=zq (show f p=some (mr num den i pq) from by rw[SFp.o,if_pos rfl]);have CSP:=zq (fun W9 (F:dB w R0 ((b, 57,V'.cells { N with au:=mix L.au (bn L (kk:Int) num den L.au) k })::(bq, 50,#[.int .i64 (pa:Int),.int .i64 (pi:Int),.int .i64 pq])::(pu, 3,#[.int .i64 (kk:Int)])::(pn, 3,#[.int .i64 num])::(pd, 3,#[.int .i64 den])::rest) V' { N with au:=mix L.au (bn L (kk:Int) num den L.au) k } W9)=>Fp w W9 R0 b _ V' { N with au:=mix L.au (bn L (kk:Int) num den L.au) k } F PO.o pa pi (by show pa<N.ai.length;rw[IV.o.dI.len];exact HPA.o.2.2) MN.o pq (by have:=HPQ.o;have:=PQ.o;omega) i num den MI2.o ⟨IOK.o.2.2.2.2.1,IOK.o.2.2.2.2.2.1⟩ ⟨HIN.o.1,HIN.o.2.1⟩ ⟨HIN.o.2.2.1,HIN.o.2.2.2⟩ cu MCU.o (by show 2<=N.ai.length;rw[IV.o.dI.len];show 2<=L.ai.length;have:=HG.o.two;omega));obtain⟨x,er,hx⟩:∃ x er,mr num den i pq=(x,er):=⟨_,_,rfl⟩;rw[hx] at SP CSP;obtain⟨sq,hsq⟩:=Zn ((bY num den pq).1);rw[<-hsq] at CSP;have HSQ:=zq hsq;have PE:=zq (zB N (mix L.au (bn L (kk:Int) num den L.au) k) (cu:Int) x 1 (pa:Int));clear hi hcu hx hsq SFp
    go_upto_region 20 with (fail)
    have ID:=zq (IP.o.QO ((Mod.refl (fun _=>False) W3).drew).aU);obtain⟨WD,hWD⟩:=Zn W3.drew;have SD:=zq (show W'.heap.size<=WD.heap.size from by rw[hWD];exact Nat.le_trans HSZ.o S3.o);rw[<-hWD] at ID;obtain⟨go,co',eo,_,_,hco,_⟩:=ID.o.old.slot dU (by decide) LI.o;obtain⟨ro,rfl⟩:=Zn ao;have eo2:ro=some ⟨go,0,none⟩/\co=co':=by rw[HEO.o] at eo;injection eo with h1 _ h3;exact⟨h1,h3⟩
    obtain⟨rfl,rfl⟩:=eo2;have r0:WD.cell? ⟨go,pi*7,none⟩=some (.int .i64 i.kind):=by have:=hco 0 _ rfl;simpa using this
    have r1:=hco 1 _ rfl;have r2:=hco 2 _ rfl;have r3:=hco 3 _ rfl;have r4:=hco 4 _ rfl;have r5:=hco 5 _ rfl;have r6:=hco 6 _ rfl;have q0:WD.cell? ⟨bq,0,none⟩=some (.int .i64 (pa:Int)):=ID.o.jl.at_.cell 1 rfl 0 rfl;have q1:WD.cell? ⟨bq,1,none⟩=some (.int .i64 (pi:Int)):=ID.o.jl.at_.cell 1 rfl 1 rfl;have q2:WD.cell? ⟨bq,2,none⟩=some (.int .i64 pq):=ID.o.jl.at_.cell 1 rfl 2 rfl;have sn:WD.cell? ⟨pn,0,none⟩=some (.int .i64 num):=ID.o.jl.at_.cell 3 rfl 0 rfl;have sd:WD.cell? ⟨pd,0,none⟩=some (.int .i64 den):=ID.o.jl.at_.cell 4 rfl 0 rfl;have k0:(0:Int)<=(pi:Int):=by omega
    have k1:(pi:Int)<(n3:Int):=by have:=HPN.o.2;have:=N3.o;omega
    clear eo hco;refine aI.aX (C:=(fun w'=>True)) [9,10] [] (.step 0 (.step 1 (.step 2 (.step 3 (.step 4 (.step 5 (.step 6 (.step 7 (.step 8 (.step 9 (.step 10 .leaf))))))))))) (fun ch d w'=>d=[]/\jO (cO L (kk:Int) num den) w R0 b rest (.panicked ch) w') (by kernel_rfl) (fun _ _ _ h=>⟨h.1,h.2⟩) (by kernel_rfl) trivial ?_;rw[<-hWD];clear hWD;refine aI.aC [0,1,2,3,4,5,6,7,8] (by kernel_rfl) ?_
    simp only[ay,nth]
    repeat (go_big_quiet_step (fail))
    refine wpQuiet_nil ?_;clear r0 r1 r2 r3 r4 r5 r6 q0 q1 q2 sn sd k0 k1;refine aI.aK (by kernel_rfl) rfl (fun K hK=>?_)
    simp only[ay,nth]
    refine aA ?_;go_simp;refine (CSP.o _ ID.o.jl).mono ?_;rintro e w5 ⟨hmo,ho⟩;have M5:=zq hmo;clear hmo CSP;rcases ho with ⟨hz1,hz2,rfl,V5,F5,O5⟩|⟨hz,rfl,A9⟩|⟨hz,hz2,rfl,A9⟩;rotate_left
    ·have GO:=zq (show dD f c 1 L.au (L.split (kk:Int) num den)=(aH.none,er) from by rw[<-ID.o.go,drop_at HP.o,lN SP.o hz]);exact⟨rfl,dS (by rw[ES4.o,GO.o,if_neg hz];rfl) hz A9⟩
    ·have hp2:(fP N (cu:Int) x 1 (pa:Int)).2≠0:=by rw[<-PE.o.1];exact hz2
     have GO:=zq (show dD f c 1 L.au (L.split (kk:Int) num den)=(aH.none,(fP N (cu:Int) x 1 (pa:Int)).2) from by rw[<-ID.o.go,drop_at HP.o,rP SP.o hz (by rw[EC.o,HPN.o.1,HCU.o.1,HPA.o.1];exact hp2),EC.o,HPN.o.1,HCU.o.1,HPA.o.1]);exact⟨rfl,dS (by rw[ES4.o,GO.o,if_neg hp2,PE.o.1];rfl) hz2 A9⟩
    have Z1:=zq hz1;have hp2:(fP N (cu:Int) x 1 (pa:Int)).2=0:=by rw[<-PE.o.1];exact hz2
    have Z2:=zq hp2;obtain⟨N5',hN5⟩:∃ l:aH,l=(fP N (cu:Int) x 1 (pa:Int)).1:=⟨_,rfl⟩;have EN5:=zq hN5;rw[PE.o.2 hp2,<-hN5] at F5 O5;have P5:=zq F5;have OW:=zq O5;clear hz1 hz2 hp2 F5 O5 hN5 PE;go_simp;refine hK _ _ (fun h=>by cases h) ?_;clear hK;have q0:w5.cell? ⟨bq,0,none⟩=some (.int .i64 (pa:Int)):=P5.o.at_.cell 1 rfl 0 rfl;have q1:w5.cell? ⟨bq,1,none⟩=some (.int .i64 (pi:Int)):=P5.o.at_.cell 1 rfl 1 rfl;have q2:w5.cell? ⟨bq,2,none⟩=some (.int .i64 pq):=P5.o.at_.cell 1 rfl 2 rfl;have f0:=P5.o.at_.free 1 rfl 0;have f1:=P5.o.at_.free 1 rfl 1;have f2:=P5.o.at_.free 1 rfl 2;have P6:=zq (show dB w R0 ((b, 57,V5.cells { N5' with au:=mix L.au (bn L (kk:Int) num den L.au) k })::(bq, 50,#[.int .i64 (pa:Int),.int .i64 (pi:Int),.int .i64 sq])::(pu, 3,#[.int .i64 (kk:Int)])::(pn, 3,#[.int .i64 num])::(pd, 3,#[.int .i64 den])::rest) V5 { N5' with au:=mix L.au (bn L (kk:Int) num den L.au) k } (((w5.setCell ⟨bq,0,none⟩ (.int .i64 (pa:Int))).setCell ⟨bq,1,none⟩ (.int .i64 (pi:Int))).setCell ⟨bq,2,none⟩ (.int .i64 sq)) from ((P5.o.cell 1 rfl 0 (.int .i64 (pa:Int))).cell 1 rfl 1 (.int .i64 (pi:Int))).cell 1 rfl 2 (.int .i64 sq));have MQ:=zq (show Mod (fun k=>k=bq) w5 (((w5.setCell ⟨bq,0,none⟩ (.int .i64 (pa:Int))).setCell ⟨bq,1,none⟩ (.int .i64 (pi:Int))).setCell ⟨bq,2,none⟩ (.int .i64 sq)) from (((Mod.refl (fun k=>k=bq) w5).setCell _ (fun _=>rfl)).setCell _ (fun _=>rfl)).setCell _ (fun _=>rfl));refine aI.dm (by kernel_rfl) rfl (by kernel_rfl) (fun K hK=>?_)
    simp only[ay,nth]
    refine aA ?_;go_simp;obtain⟨w6,hw6⟩:=Zn (((w5.setCell ⟨bq,0,none⟩ (.int .i64 (pa:Int))).setCell ⟨bq,1,none⟩ (.int .i64 (pi:Int))).setCell ⟨bq,2,none⟩ (.int .i64 sq));rw[<-hw6] at P6 MQ ⊢;refine hK _ _ ?_;clear hK hw6 q0 q1 q2 f0 f1 f2;refine aI.bH ?_;have BQ0:=zq (show w.heap.size<=bq/\bq<WD.heap.size from ⟨ID.o.jl.at_.new (bq,_,_) (List.mem_cons_of_mem _ (List.mem_cons_self ..)),ID.o.jl.at_.lt (bq,_,_) (List.mem_cons_of_mem _ (List.mem_cons_self ..))⟩);have M6:=zq (show Mod (fun k=>k=b\/k=bq) WD w6 from (M5.o.mono (T:=fun k=>k=b\/k=bq) (fun _ _ h=>Or.inl h)).trans MQ.o (fun _ _ h=>Or.inr h));have OW6:=zq (show ∀ g,V5.au.ownBlock=some g->WD.heap.size<=g from fun g hg=>(OW.o.au.lt g hg).1);have P7:=zq P6.o.drew;have M7:=zq (show Mod (fun k=>k=b\/k=bq) WD w6.drew from M6.o.drew);obtain⟨w7,hw7⟩:=Zn w6.drew;rw[<-hw7] at P7 M7;have PK:=zq (show (mix L.au (bn L (kk:Int) num den L.au) k)[k]?=some p from (qx (eX _ _ _ _ _)).trans HP.o);obtain⟨g5,d5,hv5,_,_,hc5,hz5⟩:=P7.o.own.au.slot fH (by decide) PK.o;have HV5:=zq hv5;rw[show (mix L.au (bn L (kk:Int) num den L.au) k).length=n5 from by rw[oO (eX _ _ _ _ _),N5.o]] at hv5;have y5:w7.cell? ⟨b,5,none⟩=some (.slice (some ⟨g5,0,none⟩) n5 d5):=P7.o.at_.cell 0 rfl 5 (by rw[<-hv5];rfl);have q0:w7.cell? ⟨bq,0,none⟩=some (.int .i64 (pa:Int)):=P7.o.at_.cell 1 rfl 0 rfl;have q1:w7.cell? ⟨bq,1,none⟩=some (.int .i64 (pi:Int)):=P7.o.at_.cell 1 rfl 1 rfl;have q2:w7.cell? ⟨bq,2,none⟩=some (.int .i64 sq):=P7.o.at_.cell 1 rfl 2 rfl;have r0:w7.cell? ⟨g5,k*3,none⟩=some (.int .i64 p.ak):=by have:=hc5 0 _ rfl;simpa using this
    have r1:=hc5 1 _ rfl;have r2:=hc5 2 _ rfl;have f0:=hz5 (k*3);have f1:=hz5 (k*3+1);have f2:=hz5 (k*3+2);have k0:(0:Int)<=(k:Int):=by omega
    go_upto_region 21 with (fail)
    refine aI.aX (C:=(fun w'=>True)) [8] [] (.step 0 (.step 1 (.step 2 (.step 3 (.step 4 (.step 5 (.step 6 (.step 7 (.step 8 .leaf))))))))) (fun _ _ _=>False) (by kernel_rfl) (fun _ _ _ h=>h.elim) (by kernel_rfl) trivial ?_;rw[<-hw7];clear hw7;refine aI.aC [0,1,2,3,4,5,6,7] (by kernel_rfl) ?_
    simp only[ay,nth]
    repeat (go_big_quiet_step (fail))
    refine wpQuiet_nil ?_;refine aI.dm (by kernel_rfl) rfl (by kernel_rfl) (fun K hK=>?_)
    simp only[ay,nth]
    refine aA ?_;go_simp;have P8:=zq (show dB w R0 ((b, 57,V5.cells { N5' with au:=mix L.au (bn L (kk:Int) num den L.au) (k+1) })::(pu, 3,#[.int .i64 (kk:Int)])::(pn, 3,#[.int .i64 num])::(pd, 3,#[.int .i64 den])::rest) V5 { N5' with au:=mix L.au (bn L (kk:Int) num den L.au) (k+1) } (((w7.setCell ⟨g5,k*3,none⟩ (.int .i64 (pa:Int))).setCell ⟨g5,k*3+1,none⟩ (.int .i64 (pi:Int))).setCell ⟨g5,k*3+2,none⟩ (.int .i64 sq)) from by
     have fx:=P7.o.drop1.Qw HV5.o PK.o sq;rw[HPA.o.1,HPN.o.1] at fx;rw[qy (eX _ _ _ _ _) (y:={ p with qty:=sq }) (by rw[jK HP.o,HPN.o.1,if_pos EOV.o.symm,HSQ.o,PQ.o])];rw[HPA.o.1,HPN.o.1];exact fx)
    have M8:=zq (show Mod (fun j=>j=b\/j=bq\/WD.heap.size<=j) WD (((w7.setCell ⟨g5,k*3,none⟩ (.int .i64 (pa:Int))).setCell ⟨g5,k*3+1,none⟩ (.int .i64 (pi:Int))).setCell ⟨g5,k*3+2,none⟩ (.int .i64 sq)) from by
     have hg:=OW6.o g5 (by rw[HV5.o];rfl);refine (M7.o.mono (T:=fun j=>j=b\/j=bq\/WD.heap.size<=j) (fun _ _ h=>?_)).trans ((((Mod.refl (fun k=>k=g5) w7).setCell _ (fun _=>rfl)).setCell _ (fun _=>rfl)).setCell _ (fun _=>rfl)) (fun j _ h=>Or.inr (Or.inr (by omega)));rcases h with h|h
     ·exact Or.inl h
     exact Or.inr (Or.inl h))
    obtain⟨w8,hw8⟩:=Zn (((w7.setCell ⟨g5,k*3,none⟩ (.int .i64 (pa:Int))).setCell ⟨g5,k*3+1,none⟩ (.int .i64 (pi:Int))).setCell ⟨g5,k*3+2,none⟩ (.int .i64 sq));rw[<-hw8] at P8 M8 ⊢;have NX:=zq (show lU w R0 b ((pu, 3,#[.int .i64 (kk:Int)])::(pn, 3,#[.int .i64 num])::(pd, 3,#[.int .i64 den])::rest) V L (kk:Int) num den vo f c (k+1) V5 N5' w8 from by
     refine⟨P8.o,?_,?_,?_,?_⟩
     ·rw[<-ID.o.go,drop_at HP.o,oP SP.o Z1.o (by rw[EC.o,HPN.o.1,HCU.o.1,HPA.o.1];exact Z2.o),EC.o,HPN.o.1,HCU.o.1,HPA.o.1,EN5.o]
     ·rw[EN5.o];exact ID.o.dI.trans (kW ⟨by decide,by rw[ID.o.dI.len];show (1:Int)<L.ai.length;exact HG.o.two⟩ ⟨by omega,by rw[ID.o.dI.len];have:=HPA.o.2.2;show (pa:Int)<L.ai.length;omega⟩ Z2.o)
     ·refine ID.o.row.kept M8.o (fun j hj h=>?_);have h1:=VPL.o j hj;have h2:=SD.o;rcases h with h|h|h
      ·exact h1.2 h
      ·have:=HBQ.o;omega
      omega
     refine ID.o.old.mod M8.o (fun j hj h=>?_);have h1:=VOL.o j hj;have h2:=SD.o;rcases h with h|h|h
     ·exact SEP.o (b, 57,V.cells L) (by simp) (by rw[hj,h])
     ·have:=HBQ.o;omega
     omega)
    have HS2:=zq (show W'.heap.size<=w8.heap.size from Nat.le_trans SD.o M8.o.size);refine hK _ _ ?_;clear hK hw8 y5 q0 q1 q2 r0 r1 r2 f0 f1 f2 hv5 hc5 hz5;refine aI.bH ?_
    go_wp2_with fail
    go_roundw
    case rel=>exact⟨k+1,by have:=LT.o;omega,by go_num,_,rfl,zq ⟨V5,N5',HS2.o,NX.o⟩⟩
    case measure=>have:=LT.o;simp[intOf];omega
 have hlt':(k:Int)<(n3:Int):=by omega
 have n12:n3<=12:=U12.o.1;have LT:=zq hlt;obtain⟨i,hi⟩:∃ i,L.af[k]?=some i:=⟨_,Zg (by rw[<-N3.o];exact hlt)⟩;obtain⟨q,hq⟩:∃ q,L.aG[k]?=some q:=⟨_,Zg (by rw[AVL.o,<-N3.o];exact hlt)⟩;have HI:=zq hi;have HQ:=zq hq;have IOK:=zq (HG.o.things.af i (List.mem_of_getElem? hi));have QOK:=zq (HG.o.aJ.aG q (List.mem_of_getElem? hq));obtain⟨L5,hL5⟩:=Zn (L.dV (kk:Int) num den k);have EL5:=zq hL5;have I5:=zq (show L5.af[k]?=some i from by rw[hL5];exact (qx (fV _ _ _ _)).trans hi);have A5:=zq (show L5.aG[k]?=some q from by rw[hL5];exact (qx (gG AVL.o.symm)).trans hq);have K5:=zq (show L5.af.length=n3/\L5.aG.length=n3/\L5.ah.length=n2 from ⟨by rw[hL5,N3.o];exact oO (fV _ _ _ _),by rw[hL5,N3.o,<-AVL.o];exact oO (gG AVL.o.symm),by rw[hL5,N2.o];exact List.length_set⟩);have F5:=zq (show dB w R0 ((b, 57,V.cells L)::(pu, 3,#[.int .i64 (kk:Int)])::(pn, 3,#[.int .i64 num])::(pd, 3,#[.int .i64 den])::rest) V L5 W' from by rw[hL5];exact IV.o.jl);have INS:=zq (show L5.ins (k:Int)=i from by have:=aH.jE (L:=L5) (k:=k) (by rw[K5.o.1];exact hlt);rw[I5.o] at this;exact (Option.some.inj this).symm);have OV:=zq (nU W' b V L5 (by have h:=F5.o.at_.get 0 rfl;rw[show V.cells L5=V.cells L from by rw[hL5];rfl];exact h) F5.o.own.led k (by rw[K5.o.1];exact hlt) (kk:Int));have GOK:=zq (show fC (kk:Int) num den L.ah.length (i::L.af.drop (k+1)) (q::L.aG.drop (k+1))=fC (kk:Int) num den L.ah.length L.af L.aG from by rw[<-drop_at hi,<-drop_at hq];exact IV.o.go);obtain⟨ov,hov⟩:=Zn (L5.over (kk:Int) k);rw[<-hov] at OV;have HOV:=zq (show ov=true↔i.under=(kk:Int) from by rw[hov];unfold aH.over;rw[INS.o];simp);have x0:W'.cell? ⟨pu,0,none⟩=some (.int .i64 (kk:Int)):=F5.o.at_.cell 1 rfl 0 rfl;clear hi hq hL5 hov hlt hk
 go_wp2_with fail
 refine OV.o.mono ?_;rintro e w' ⟨rfl,rfl⟩;clear x0 OV
 cases hb:ov with
 | false =>
   subst hb;have NX:=zq (show Ig w R0 b ((pu, 3,#[.int .i64 (kk:Int)])::(pn, 3,#[.int .i64 num])::(pd, 3,#[.int .i64 den])::rest) V L (kk:Int) num den vo L.af (k+1) W' from by
    have hne:¬ i.under=(kk:Int):=fun h=>by have:=HOV.o.2 h;cases this
    refine⟨?_,by rw[<-GOK.o,xq hne],IV.o.old,IV.o.sep,IV.o.apart⟩;have e1:mix L.af (gK (kk:Int) num den L.af) (k+1)=mix L.af (gK (kk:Int) num den L.af) k:=qA (fV _ _ _ _) (by rw[lM HI.o,if_neg hne,HI.o]);have e2:mix L.aG (eP (kk:Int) num den L.af L.aG) (k+1)=mix L.aG (eP (kk:Int) num den L.af L.aG) k:=qA (gG AVL.o.symm) (by rw[mQ HI.o HQ.o,if_neg hne,HQ.o]);have e3:L.dV (kk:Int) num den (k+1)=L.dV (kk:Int) num den k:=by unfold aH.dV;rw[e1,e2]
    rw[e3];exact IV.o.jl)
   go_wp2_with fail
   go_roundw
   case rel=>exact⟨k+1,by have:=LT.o;omega,by go_num,_,rfl,NX⟩
   case measure=>have:=LT.o;simp[intOf];omega
 | true =>
   subst hb;have HU:=zq (show i.under=(kk:Int) from HOV.o.1 rfl);clear HOV;obtain⟨g3,d3,hv3,_,_,hc3,hz3⟩:=F5.o.own.af.slot dU (by decide) I5.o;rw[K5.o.1] at hv3;have HV3:=zq hv3;obtain⟨st,hst⟩:=Zn i.strike;obtain⟨mk,hmk⟩:=Zn i.mark;have SM:=zq (And.intro hst hmk);have B64:=zq (show I64 st/\I64 mk from by
    obtain⟨_,_,_,_,m0,m1,h⟩:=IOK.o;refine⟨?_,by rw[hmk];exact⟨by omega,by omega⟩⟩;rw[hst];rcases h with h|h|h <;> exact⟨by omega,by omega⟩)
   obtain⟨s',es,hs'⟩:∃ x e,eU num den st=(x,e):=⟨_,_,rfl⟩;obtain⟨m',em,hm'⟩:∃ x e,eU num den mk=(x,e):=⟨_,_,rfl⟩;have HSM:=zq (And.intro hs' hm');have IE:=zq (show sZ num den L.ah.length i q=if es=0 then if em=0 then if (kS num den i).Ok L.ah.length then (bY num den q).2 else 37 else em else es from by unfold sZ;rw[<-hst,<-hmk,hs',hm']);have LE:=zq (fun W2 (F:dB w R0 ((b, 57,V.cells L)::(pu, 3,#[.int .i64 (kk:Int)])::(pn, 3,#[.int .i64 num])::(pd, 3,#[.int .i64 den])::rest) V L5 W2) v (hv:I64 v)=>zl pn pd num den v hv HN.o.1 HN.o.2 W2 (F.at_.cell 2 rfl 0 rfl) (F.at_.cell 3 rfl 0 rfl));have LS:=zq (fun W2 F=>LE.o W2 F st B64.o.1);have LM:=zq (fun W2 F=>LE.o W2 F mk B64.o.2);rw[hs'] at LS;rw[hm'] at LM;have y3:W'.cell? ⟨b,3,none⟩=some (.slice (some ⟨g3,0,none⟩) n3 d3):=F5.o.at_.cell 0 rfl 3 (by rw[<-hv3];rfl);have k0:(0:Int)<=(k:Int):=by omega
   have CE:=zq (show ∀ W2,dB w R0 ((b, 57,V.cells L)::(pu, 3,#[.int .i64 (kk:Int)])::(pn, 3,#[.int .i64 num])::(pd, 3,#[.int .i64 den])::rest) V L5 W2->W2.cell? ⟨g3,k*7+3,none⟩=some (.int .i64 st)/\W2.cell? ⟨g3,k*7+6,none⟩=some (.int .i64 mk)/\∀ j,W2.frozen? ⟨g3,j,none⟩=false from fun W2 F=>by
    obtain⟨g,d,e,_,_,hc,hz⟩:=F.own.af.slot dU (by decide) I5.o;rw[K5.o.1,HV3.o] at e;injection e with e;injection e with e;injection e with e;subst e;exact⟨by rw[SM.o.1];exact hc 3 _ rfl,by rw[SM.o.2];exact hc 6 _ rfl,hz⟩)
   clear hv3 hc3 hz3 hst hmk hs' hm'
   go_upto_region 12 with (fail)
   have F5D:=zq F5.o.drew;have OL5:=zq (IV.o.old.mod ((Mod.refl (fun _=>False) W').drew) (fun _ _ h=>h));obtain⟨WD,hWD⟩:=Zn W'.drew;rw[<-hWD] at F5D OL5;have j6:∀ z:dh (fun W2:World=>W2.cell? ⟨g3,k*7+6,none⟩=some (.int .i64 mk)),z.w.cell? ⟨g3,k*7+6,none⟩=some (.int .i64 mk):=fun z=>z.ok
   haveI ne6:Nonempty (dh (fun W2:World=>W2.cell? ⟨g3,k*7+6,none⟩=some (.int .i64 mk))):=⟨⟨WD,(CE.o _ F5D.o).2.1⟩⟩
   refine aI.aX (C:=(fun w'=>∃ z:dh (fun W2:World=>W2.cell? ⟨g3,k*7+6,none⟩=some (.int .i64 mk)),w'=z.w)) [7,13,16,19] [0,1,8,9,10,11,12] (.step 0 (.step 1 (.step 2 (.step 3 (.step 4 (.step 5 (.step 6 (.step 8 (.step 9 (.step 10 (.step 11 (.step 12 (.step 7 (.step 13 (.step 14 (.step 15 (.step 16 (.step 17 (.step 18 (.step 19 .leaf)))))))))))))))))))) (fun ch d w'=>d=[]/\jO (cO L (kk:Int) num den) w R0 b rest (.panicked ch) w') (by kernel_rfl) (fun _ _ _ h=>⟨h.1,h.2⟩) (by kernel_rfl) ⟨⟨W'.drew,by rw[<-hWD];exact (CE.o _ F5D.o).2.1⟩,rfl⟩ ?_;rw[<-hWD];clear hWD;refine aI.bM [0,1] (by kernel_rfl) ?_
   simp only[ay,nth]
   repeat (go_big_quiet_step (fail))
   refine wpQuiet_nil ?_;have s3:=(CE.o _ F5D.o).1;refine aI.aC [2,3,4,5,6] (by kernel_rfl) ?_
   simp only[ay,nth]
   repeat (go_big_quiet_step (fail))
   refine wpQuiet_nil ?_;clear s3;refine aI.bM [8,9,10,11,12] (by kernel_rfl) ?_
   simp only[ay,nth]
   repeat (go_big_quiet_step (fail))
   refine wpQuiet_nil ?_;clear j6;refine aI.aK (by kernel_rfl) rfl (fun K hK=>?_)
   simp only[ay,nth]
   refine aA ?_;go_simp;refine (LS.o _ F5D.o).mono ?_;rintro e w4 ⟨ho,hb⟩;have F6:=zq (F5D.o.go hb);have OL6:=zq (OL5.o.mod (Mod.of_below hb) (fun _ _ h=>h));clear hb LS;rcases ho with ⟨hz,rfl⟩|⟨hz,rfl⟩;rotate_left
   ·have GB:=zq (show fC (kk:Int) num den L.ah.length L.af L.aG=es from by rw[<-GOK.o,nS HU.o (by rw[IE.o,if_neg hz];exact hz),IE.o,if_neg hz]);exact⟨rfl,dS (by rw[ES3.o,if_neg (by rw[GB.o];exact hz),GB.o];rfl) hz F6.o.at_⟩
   try simp only at hz
   subst hz;have IE2:=zq (IE.o.trans (if_pos rfl));go_simp;refine hK _ _ (fun _=>⟨⟨_,(CE.o _ F6.o).2.1⟩,rfl⟩) ?_;clear hK IE F5D OL5;refine aI.aK (by kernel_rfl) rfl (fun K hK=>?_)
   simp only[ay,nth]
   refine aA ?_;go_simp;refine (LM.o _ F6.o).mono ?_;rintro e w5 ⟨ho,hb⟩;have F7:=zq (F6.o.go hb);have OL7:=zq (OL6.o.mod (Mod.of_below hb) (fun _ _ h=>h));clear hb LM;rcases ho with ⟨hz,rfl⟩|⟨hz,rfl⟩;rotate_left
   ·have GB:=zq (show fC (kk:Int) num den L.ah.length L.af L.aG=em from by rw[<-GOK.o,nS HU.o (by rw[IE2.o,if_neg hz];exact hz),IE2.o,if_neg hz]);exact⟨rfl,dS (by rw[ES3.o,if_neg (by rw[GB.o];exact hz),GB.o];rfl) hz F7.o.at_⟩
   try simp only at hz
   subst hz;have IE3:=zq (IE2.o.trans (if_pos rfl));go_simp;refine hK _ _ (fun _=>⟨⟨_,(CE.o _ F7.o).2.1⟩,rfl⟩) ?_;clear hK IE2 F6 OL6;refine aI.aC [14,15] (by kernel_rfl) ?_
   simp only[ay,nth]
   repeat (go_big_quiet_step (fail))
   refine wpQuiet_nil ?_;have s3:=(CE.o _ F7.o).1;have z3:=(CE.o _ F7.o).2.2 (k*7+3);have s6:=zq (show (w5.setCell ⟨g3,k*7+3,none⟩ (.int .i64 s')).cell? ⟨g3,k*7+6,none⟩=some (.int .i64 mk) from by
    have e:((⟨g3,k*7+3,none⟩:Addr)≠⟨g3,k*7+6,none⟩):=by intro e;injection e with _ e2;omega
    rw[World.cell?_setCell_other _ _ _ _ e];exact (CE.o _ F7.o).2.1)
   refine aI.aK (by kernel_rfl) rfl (fun K hK=>?_)
   simp only[ay,nth]
   refine aA ?_;go_simp;refine hK _ _ (fun _=>⟨⟨_,s6.o⟩,rfl⟩) ?_;clear hK s3 z3;refine aI.aC [17,18] (by kernel_rfl) ?_
   simp only[ay,nth]
   repeat (go_big_quiet_step (fail))
   refine wpQuiet_nil ?_;have s3:=s6.o;have z3:(w5.setCell ⟨g3,k*7+3,none⟩ (.int .i64 s')).frozen? ⟨g3,k*7+6,none⟩=false:=by
    obtain⟨o1,_⟩:=F7.o.own.oW (x':={ i with strike:=s' }) (u:=.int .i64 s') (j:=3) (by rw[HV3.o,K5.o.1]) I5.o (by decide) rfl;obtain⟨g,d,e,_,_,_,hz⟩:=o1.af.slot dU (by decide) (k:=k) (x:={ i with strike:=s' }) (by simp[K5.o.1,LT.o]);rw[HV3.o] at e;injection e with e;injection e with e;injection e with e;subst e;exact hz _
   refine aI.dm (by kernel_rfl) rfl (by kernel_rfl) (fun K hK=>?_)
   simp only[ay,nth]
   refine aA ?_;go_simp;obtain⟨L6,hL6⟩:∃ l:aH,l={ L5 with af:=L5.af.set k (kS num den i) }:=⟨_,rfl⟩;have F8:=zq (show dB w R0 ((b, 57,V.cells L)::(pu, 3,#[.int .i64 (kk:Int)])::(pn, 3,#[.int .i64 num])::(pd, 3,#[.int .i64 den])::rest) V L6 ((w5.setCell ⟨g3,k*7+3,none⟩ (.int .i64 s')).setCell ⟨g3,k*7+6,none⟩ (.int .i64 m')) from by
    have f:=F7.o.Oh (by rw[HV3.o,K5.o.1]) I5.o s' m';have e:kS num den i={ i with strike:=s',mark:=m' }:=by unfold kS;rw[<-SM.o.1,<-SM.o.2,HSM.o.1,HSM.o.2]
    rw[hL6,e];exact f)
   have OL8:=zq (OL7.o.mod (((Mod.refl (fun k=>k=g3) w5).setCell (p:=⟨g3,k*7+3,none⟩) (.int .i64 s') (fun _=>rfl)).setCell (p:=⟨g3,k*7+6,none⟩) (.int .i64 m') (fun _=>rfl)) (fun k hk e=>by subst e;exact IV.o.apart V.af (by simp[aB.rows]) k (by rw[HV3.o];rfl) hk));obtain⟨W6,hW6⟩:=Zn ((w5.setCell ⟨g3,k*7+3,none⟩ (.int .i64 s')).setCell ⟨g3,k*7+6,none⟩ (.int .i64 m'));rw[<-hW6] at F8 OL8 ⊢;refine hK _ _ ?_;have EL6:=zq hL6;have I6:=zq (show L6.af[k]?=some (kS num den i)/\L6.aG=L5.aG/\L6.ah.length=n2 from ⟨by rw[hL6];simp[K5.o.1,LT.o],by rw[hL6],by rw[hL6];exact K5.o.2.2⟩);clear hK hW6 hL6 s3 z3 s6 F7 OL7 LE CE;refine aI.bH ?_;have hR6:=F8.o.own.led.af;have HV6:=zq (show V.af=.slice (some ⟨g3,0,none⟩) L6.af.length d3 from by rw[HV3.o,EL6.o];simp[K5.o.1]);rw[HV6.o] at hR6;obtain⟨ii,hii⟩:=Zn (kS num den i);rw[<-hii] at I6;have HII:=zq hii;have i0:W6.cell? ⟨g3,k*7,none⟩=some (.int .i64 ii.kind):=by have:=hR6.near I6.o.1 (j:=0) rfl;simpa using this
   have i1:W6.cell? ⟨g3,k*7+1,none⟩=some (.int .i64 ii.under):=by have:=hR6.near I6.o.1 (j:=1) rfl;simpa using this
   have i2:W6.cell? ⟨g3,k*7+2,none⟩=some (.int .i64 ii.mult):=by have:=hR6.near I6.o.1 (j:=2) rfl;simpa using this
   have i3:W6.cell? ⟨g3,k*7+3,none⟩=some (.int .i64 ii.strike):=by have:=hR6.near I6.o.1 (j:=3) rfl;simpa using this
   have i4:W6.cell? ⟨g3,k*7+4,none⟩=some (.int .i64 ii.aN):=by have:=hR6.near I6.o.1 (j:=4) rfl;simpa using this
   have i5:W6.cell? ⟨g3,k*7+5,none⟩=some (.bool ii.call):=by have:=hR6.near I6.o.1 (j:=5) rfl;simpa using this
   have i6:W6.cell? ⟨g3,k*7+6,none⟩=some (.int .i64 ii.mark):=by have:=hR6.near I6.o.1 (j:=6) rfl;simpa using this
   obtain⟨a2',c2',e2'⟩:=F8.o.own.led.ah.form;rw[I6.o.2.2] at e2';have y2:W6.cell? ⟨b,2,none⟩=some (.slice a2' n2 c2'):=F8.o.at_.cell 0 rfl 2 (by rw[<-e2'];rfl);have IN:=zq (fun W=>ins_any ii n2 (by have:=U12.o.2;omega) W);clear hii hR6 e2' y3
   go_wp2_with fail
   refine aI.aX (C:=(fun w'=>True)) [9,10] [] (.step 0 (.step 1 (.step 2 (.step 3 (.step 4 (.step 5 (.step 6 (.step 7 (.step 8 (.step 9 (.step 10 .leaf))))))))))) (fun ch d w'=>d=[]/\jO (cO L (kk:Int) num den) w R0 b rest (.panicked ch) w') (by kernel_rfl) (fun _ _ _ h=>⟨h.1,h.2⟩) (by kernel_rfl) trivial ?_;refine aI.aC [0,1,2,3,4,5,6,7,8] (by kernel_rfl) ?_
   simp only[ay,nth]
   repeat (go_big_quiet_step (fail))
   refine wpQuiet_nil ?_;clear y2 i0 i1 i2 i3 i4 i5 i6;refine aI.aK (by kernel_rfl) rfl (fun K hK=>?_)
   simp only[ay,nth]
   refine aA ?_;go_simp;refine (IN.o _).mono ?_;rintro e w7 ⟨rfl,hb⟩;have F9:=zq (F8.o.drew.go hb);have OL9:=zq ((OL8.o.mod ((Mod.refl (fun _=>False) W6).drew) (fun _ _ h=>h)).mod (Mod.of_below hb) (fun _ _ h=>h));clear hb IN;go_simp;refine hK _ _ (fun h=>by cases h) ?_;clear hK F8 OL8;refine aI.dm (by kernel_rfl) rfl (by kernel_rfl) (fun K hK=>?_)
   simp only[ay,nth]
   refine aA ?_;go_simp;refine (kT (ii.Ok n2) 37 _).mono ?_;rintro e w' ⟨he,rfl⟩;rcases Or.symm he with ⟨hlt,rfl⟩|⟨hlt,rfl⟩
   ·have GB:=zq (show fC (kk:Int) num den L.ah.length L.af L.aG=37 from by
     have hx:¬ (kS num den i).Ok L.ah.length:=by rw[<-N2.o,<-HII.o];exact hlt
     rw[<-GOK.o,nS HU.o (by rw[IE3.o,if_neg hx];decide),IE3.o,if_neg hx])
    exact⟨rfl,dS (by rw[ES3.o,if_neg (by rw[GB.o];decide),GB.o];rfl) (by decide) F9.o.at_⟩
   have IE4:=zq (IE3.o.trans (if_pos (by rw[<-N2.o,<-HII.o];exact hlt)));clear he hlt IE3;go_simp;refine hK _ _ ?_;clear hK;refine aI.bH ?_;have A6:=zq (show L6.aG[k]?=some q from by rw[I6.o.2.1];exact A5.o);obtain⟨g7,d7,hv7,_,_,hc7,hz7⟩:=F9.o.own.aG.slot iM (by decide) A6.o;have HV7:=zq hv7;have LA6:=zq (show L6.aG.length=n3 from by rw[I6.o.2.1];exact K5.o.2.1);rw[LA6.o] at hv7;have QI:=zq (show I64 q from ⟨by have:=QOK.o;omega,by have:=QOK.o;omega⟩);obtain⟨q',eq',hq'⟩:∃ x e,bY num den q=(x,e):=⟨_,_,rfl⟩;have HQ':=zq hq';have SH:=zq (fun W=>vJ q num den QOK.o.1 HIN.o.1 HIN.o.2.2.1 QI.o HN.o.1 HN.o.2 W);rw[hq'] at SH;have CE:=zq (show ∀ W2,dB w R0 ((b, 57,V.cells L)::(pu, 3,#[.int .i64 (kk:Int)])::(pn, 3,#[.int .i64 num])::(pd, 3,#[.int .i64 den])::rest) V L6 W2->W2.cell? ⟨b,7,none⟩=some (.slice (some ⟨g7,0,none⟩) n3 d7)/\W2.cell? ⟨g7,k,none⟩=some (.int .i64 q)/\∀ j,W2.frozen? ⟨g7,j,none⟩=false from fun W2 F=>by
    refine⟨F.at_.cell 0 rfl 7 (by rw[<-LA6.o,<-HV7.o];rfl),?_⟩;obtain⟨g,d,e,_,_,hc,hz⟩:=F.own.aG.slot iM (by decide) A6.o;rw[HV7.o] at e;injection e with e;injection e with e;injection e with e;subst e;exact⟨by have:=hc 0 _ rfl;simpa using this,hz⟩)
   clear hv7 hc7 hz7 hq'
   go_upto_region 14 with (fail)
   have F10:=zq F9.o.drew;have OL10:=zq (OL9.o.mod ((Mod.refl (fun _=>False) w7).drew) (fun _ _ h=>h));obtain⟨WE,hWE⟩:=Zn w7.drew;rw[<-hWE] at F10 OL10;have j7:∀ z:dh (fun W2:World=>W2.cell? ⟨b,7,none⟩=some (.slice (some ⟨g7,0,none⟩) n3 d7)),z.w.cell? ⟨b,7,none⟩=some (.slice (some ⟨g7,0,none⟩) n3 d7):=fun z=>z.ok
   haveI ne7:Nonempty (dh (fun W2:World=>W2.cell? ⟨b,7,none⟩=some (.slice (some ⟨g7,0,none⟩) n3 d7))):=⟨⟨WE,(CE.o _ F10.o).1⟩⟩
   refine aI.aX (C:=(fun w'=>∃ z:dh (fun W2:World=>W2.cell? ⟨b,7,none⟩=some (.slice (some ⟨g7,0,none⟩) n3 d7)),w'=z.w)) [16,18] [0,1,2,3,4,5] (.step 0 (.step 1 (.step 2 (.step 3 (.step 4 (.step 5 (.step 6 (.step 7 (.step 8 (.step 9 (.step 10 (.step 11 (.step 12 (.step 13 (.step 14 (.step 15 (.step 16 (.step 17 (.step 18 .leaf))))))))))))))))))) (fun ch d w'=>d=[]/\jO (cO L (kk:Int) num den) w R0 b rest (.panicked ch) w') (by kernel_rfl) (fun _ _ _ h=>⟨h.1,h.2⟩) (by kernel_rfl) ⟨⟨w7.drew,by rw[<-hWE];exact (CE.o _ F10.o).1⟩,rfl⟩ ?_;rw[<-hWE];clear hWE;refine aI.bM [0,1,2,3,4,5] (by kernel_rfl) ?_
   simp only[ay,nth]
   repeat (go_big_quiet_step (fail))
   refine wpQuiet_nil ?_;have s7:=(CE.o _ F10.o).1;have sq:=(CE.o _ F10.o).2.1;have sn:WE.cell? ⟨pn,0,none⟩=some (.int .i64 num):=F10.o.at_.cell 2 rfl 0 rfl;have sd:WE.cell? ⟨pd,0,none⟩=some (.int .i64 den):=F10.o.at_.cell 3 rfl 0 rfl;refine aI.aC [6,7,8,9,10,11,12,13,14,15] (by kernel_rfl) ?_
   simp only[ay,nth]
   repeat (go_big_quiet_step (fail))
   refine wpQuiet_nil ?_;clear j7 s7 sq sn sd;refine aI.aK (by kernel_rfl) rfl (fun K hK=>?_)
   simp only[ay,nth]
   refine aA ?_;go_simp;refine (SH.o _).mono ?_;rintro e w8 ⟨ho,hb⟩;have F11:=zq (F10.o.go hb);have OL11:=zq (OL10.o.mod (Mod.of_below hb) (fun _ _ h=>h));clear hb SH;rcases ho with ⟨hz,rfl⟩|⟨hz,rfl⟩;rotate_left
   ·have GB:=zq (show fC (kk:Int) num den L.ah.length L.af L.aG=eq' from by rw[<-GOK.o,nS HU.o (by rw[IE4.o,HQ'.o];exact hz),IE4.o,HQ'.o]);exact⟨rfl,dS (by rw[ES3.o,if_neg (by rw[GB.o];exact hz),GB.o];rfl) hz F11.o.at_⟩
   try simp only at hz
   subst hz;go_simp;refine hK _ _ (fun _=>⟨⟨_,(CE.o _ F11.o).1⟩,rfl⟩) ?_;clear hK F10 OL10 F9 OL9;refine aI.aC [17] (by kernel_rfl) ?_
   simp only[ay,nth]
   repeat (go_big_quiet_step (fail))
   refine wpQuiet_nil ?_;have sq:=(CE.o _ F11.o).2.1;have zq1:=(CE.o _ F11.o).2.2 k;refine aI.dm (by kernel_rfl) rfl (by kernel_rfl) (fun K hK=>?_)
   simp only[ay,nth]
   refine aA ?_;go_simp;have NX:=zq (show Ig w R0 b ((pu, 3,#[.int .i64 (kk:Int)])::(pn, 3,#[.int .i64 num])::(pd, 3,#[.int .i64 den])::rest) V L (kk:Int) num den vo L.af (k+1) (w8.setCell ⟨g7,k,none⟩ (.int .i64 q')) from by
    refine⟨?_,by rw[<-GOK.o,xu HU.o (by rw[IE4.o,HQ'.o])],?_,IV.o.sep,IV.o.apart⟩
    ·have f:=F11.o.DU HV7.o A6.o q';have e1:mix L.af (gK (kk:Int) num den L.af) (k+1)=(mix L.af (gK (kk:Int) num den L.af) k).set k (kS num den i):=qy (fV _ _ _ _) (by rw[lM HI.o,if_pos HU.o]);have e2:mix L.aG (eP (kk:Int) num den L.af L.aG) (k+1)=(mix L.aG (eP (kk:Int) num den L.af L.aG) k).set k q':=qy (gG AVL.o.symm) (by rw[mQ HI.o HQ.o,if_pos HU.o,HQ'.o]);have e3:L.dV (kk:Int) num den (k+1)={ L6 with aG:=L6.aG.set k q' }:=by
      rw[EL6.o,EL5.o];unfold aH.dV;rw[e1,e2]
     rw[e3];exact f
    exact OL11.o.mod ((Mod.refl (fun k=>k=g7) w8).setCell (p:=⟨g7,k,none⟩) (.int .i64 q') (fun _=>rfl)) (fun k hk e=>by subst e;exact IV.o.apart V.aG (by simp[aB.rows]) k (by rw[HV7.o];rfl) hk))
   refine hK _ _ ?_;obtain⟨W9,hW9⟩:=Zn (w8.setCell ⟨g7,k,none⟩ (.int .i64 q'));rw[<-hW9] at NX ⊢;clear hK hW9 sq zq1 F11 OL11 CE;refine aI.bH ?_
   go_wp2_with fail
   go_roundw
   case rel=>exact⟨k+1,by have:=LT.o;omega,by go_num,_,rfl,NX⟩
   case measure=>have:=LT.o;simp[intOf];omega
end Go.Proofs.YtcepekniflaoaaaGreatDoor
