/- Joined: LifG, LifA, AdmD, LifPa. -/
import Derived.Test.YtcepekniflaoaaaGreatDoorHp
import Derived.Test.YtcepekniflaoaaaGreatDoorGn
import Derived.Test.YtcepekniflaoaaaGreatDoorGk
import Derived.Test.YtcepekniflaoaaaGreatDoorHb
import Derived.Test.YtcepekniflaoaaaGreatDoorGl
import Derived.Test.YtcepekniflaoaaaGreatDoorGj
import Derived.Test.YtcepekniflaoaaaGreatDoorGc
set_option linter.unusedVariables false
set_option linter.unusedSimpArgs false
set_option maxRecDepth 100000
set_option maxHeartbeats 4000000
namespace Go.Bw
open Go.RowKit Classical
theorem oQ {f:Pos->Option (Int×Int)} {c:Pos->Int} {frm:Int} {p:Pos} {r:List Pos} {M:aH} (h:f p=none):dD f c frm (p::r) M=dD f c frm r M:=by simp only[dD,h]
theorem lN {f:Pos->Option (Int×Int)} {c:Pos->Int} {frm:Int} {p:Pos} {r:List Pos} {M:aH} {x:Int×Int} (h:f p=some x) (hx:x.2≠0):dD f c frm (p::r) M=(aH.none,x.2):=by simp only[dD,h,if_neg hx]
theorem rP {f:Pos->Option (Int×Int)} {c:Pos->Int} {frm:Int} {p:Pos} {r:List Pos} {M:aH} {x:Int×Int} (h:f p=some x) (hx:x.2=0) (hp:(fP M (c p) x.1 frm p.ak).2≠0):dD f c frm (p::r) M=(aH.none,(fP M (c p) x.1 frm p.ak).2):=by simp only[dD,h,if_pos hx,if_neg hp]
theorem oP {f:Pos->Option (Int×Int)} {c:Pos->Int} {frm:Int} {p:Pos} {r:List Pos} {M:aH} {x:Int×Int} (h:f p=some x) (hx:x.2=0) (hp:(fP M (c p) x.1 frm p.ak).2=0):dD f c frm (p::r) M=dD f c frm r (fP M (c p) x.1 frm p.ak).1:=by simp only[dD,h,if_pos hx,if_pos hp]
theorem wV {n:Nat} {i:Ins} {r:List Ins} {M:aH} (h:¬ (i.aN=0\/M.day<=i.aN)):pF n (i::r) M=pF (n+1) r M:=by simp only[pF,if_neg h]
theorem wW {n:Nat} {i:Ins} {r:List Ins} {M:aH} (h:i.aN=0\/M.day<=i.aN) (hs:(iI M n).2=0):pF n (i::r) M=pF (n+1) r (iI M n).1:=by simp only[pF,if_pos h,if_pos hs]
theorem drop_at {α:Type} {l:List α} {k:Nat} {x:α} (h:l[k]?=some x):l.drop k=x::l.drop (k+1):=by
 have hk:=(List.getElem?_eq_some_iff.1 h).1;rw[List.drop_eq_getElem_cons hk,(List.getElem?_eq_some_iff.1 h).2]
theorem nN {α:Type} {l:List α} {k:Nat} (h:l.length<=k):l.drop k=[]:=List.drop_eq_nil_of_le h
structure Ed (w:World) (V:aB) (L:aH) (k m:Nat) (p:Acc×Value) (b o b2 o2 c c2:Nat):Prop where
 acc:V.ac[k]?=some p
 one:p.1=L.acc k
 row:V.ai=.slice (some ⟨b,o,none⟩) L.ai.length c
 aT:p.2=.slice (some ⟨b2,o2,none⟩) (L.acc k).aT.length c2
 OA:w.cell? ⟨b,o+k*4+1,none⟩=some (.slice (some ⟨b2,o2,none⟩) (L.acc k).aT.length c2)
 at2:w.cell? ⟨b2,o2+m,none⟩=some (.int .i64 (L.aT k m))
 is:(L.acc k).aT[m]?=some (L.aT k m)
 fits:-9223372036854775808<=L.aT k m/\L.aT k m<=9223372036854775807
theorem aH.Em {L:aH} {k:Nat} (hk:k<L.ai.length):L.ai[k]?=some (L.acc k):=by
 show _=some (L.ai.getD (Int.toNat (k:Int)) _)
 rw[Int.toNat_natCast,List.getD_eq_getElem?_getD,List.getElem?_eq_getElem hk];rfl
theorem aH.OG {L:aH} {k m:Nat} (hm:m<(L.acc k).aT.length):(L.acc k).aT[m]?=some (L.aT k m):=by
 show _=some ((L.acc k).aT.getD (Int.toNat (m:Int)) _)
 rw[Int.toNat_natCast,List.getD_eq_getElem?_getD,List.getElem?_eq_getElem hm];rfl
theorem bK.lV {w:World} {V:aB} {L:aH} (h:bK w V L) {k m:Nat} (hk:k<L.ai.length) (hm:m<(L.acc k).aT.length):∃ p b o b2 o2 c c2,Ed w V L k m p b o b2 o2 c c2:=by
 have ha:=aH.Em hk;have hc:=aH.OG hm;have hs:=h.same;obtain⟨p,hp⟩:∃ p,V.ac[k]?=some p:=⟨_,Zg (by have h1:=congrArg List.length hs;rw[List.length_map] at h1;omega)⟩;have hpe:p.1=L.acc k:=by
  have h1:L.ai[k]?=some p.1:=by rw[hs,List.getElem?_map,hp];rfl
  rw[ha] at h1;exact (Option.some.inj h1).symm
 have hl:V.ac.length=L.ai.length:=by rw[hs,List.length_map]
 obtain⟨a4,c4,e4⟩:=h.ai.form;have hR:=h.ai;rw[e4] at hR;obtain⟨b,o,e,_,h1⟩:=hR.at_ hp;have hR2:=h.aT p (List.mem_of_getElem? hp);obtain⟨a5,c5,e5⟩:=hR2.form;rw[e5] at hR2;obtain⟨b2,o2,e2,_,h2⟩:=hR2.at_ (k:=m) (x:=L.aT k m) (by rw[hpe];exact hc);subst e;subst e2;rw[hpe] at e5;rw[hl] at e4;have q1:=h1 1 _ rfl;rw[e5] at q1;refine⟨p,b,o,b2,o2,c4,c5,hp,hpe,e4,e5,q1,by have:=h2 0 _ rfl;simpa using this,hc,?_⟩;exact h.nums _ (List.mem_of_getElem? ha) _ (List.mem_of_getElem? hc)
theorem bF.lV {w:World} {B:Nat} {V:aB} {L:aH} (h:bF w B V L) {k m:Nat} (hk:k<L.ai.length) (hm:m<(L.acc k).aT.length):∃ p b b2 c c2,Ed w V L k m p b 0 b2 0 c c2/\w.frozen? ⟨b2,m,none⟩=false:=by
 obtain⟨p,b,o,b2,o2,c,c2,A⟩:=h.led.lV hk hm;obtain⟨g,cg,hv,_⟩:=h.ai.block A.acc;obtain⟨g2,cg2,hv2,_,_,_,hz⟩:=(h.aT p (List.mem_of_getElem? A.acc)).block (by rw[A.one];exact A.is);have e1:=A.row;have e2:=A.aT;rw[hv] at e1;rw[hv2] at e2;injection e1 with e1;injection e1 with e1;injection e1 with e1 e3;injection e2 with e2;injection e2 with e2;injection e2 with e2 e4;subst e1 e2 e3 e4;exact⟨p,_,_,c,c2,A,hz m⟩
theorem dB.di {w W:World} {R0:Nat} {bs:List (Nat×TypeId×Array Value)} {V:aB} {L:aH} (F:dB w R0 bs V L W) {k m:Nat} {p:Acc×Value} {b b2 c c2:Nat} (A:Ed W V L k m p b 0 b2 0 c c2) {x:Int} (hx:aO x=true) :
 dB w R0 bs { V with ac:=V.ac.set k ({ p.1 with aT:=p.1.aT.set m x },p.2) } (L.di k m x) (W.setCell ⟨b2,m,none⟩ (.int .i64 x)):=by
 have hp2:p.2=.slice (some ⟨b2,0,none⟩) p.1.aT.length c2:=by rw[A.aT,A.one]
 obtain⟨o1,m1⟩:=F.own.di A.acc hp2 (n:=m) (y:=L.aT k m) (by rw[A.one];exact A.is) (x:=x) (by have:=aF.1 hx;omega);have e:L.di k m x={ L with ai:=L.ai.set k { p.1 with aT:=p.1.aT.set m x } }:=by
  unfold aH.di;rw[A.one,Int.toNat_natCast,Int.toNat_natCast]
 rw[e];exact F.row o1 m1 (q:=k+8) (je A.acc) (by rw[A.aT];rfl) (by simp only[aB.rows];rw[jb (fun q:Acc×Value=>q.2) (x':=({ p.1 with aT:=p.1.aT.set m x },p.2)) A.acc rfl])
theorem aH.Good.iV {L:aH} (h:L.Good) {k:Nat} (hk:k<L.ai.length):(L.acc k).aT.length=L.aQ.length:=(h.accounts.ai k _ (aH.Em hk)).1
theorem RowOf.place {α:Type} {w:World} {n:Nat} {f:α->List Value} {v:Value} {l:List α} (h:RowOf w n f v l) {k:Nat} {x:α} (hk:l[k]?=some x) :
 ∃ b o c,v=.slice (some ⟨b,o,none⟩) l.length c/\∀ (j:Nat) u,(f x)[j]?=some u->w.cell? ⟨b,o+k*n+j,none⟩=some u:=by
 obtain⟨a,c,e⟩:=h.form;rw[e] at h;obtain⟨b,o,e2,_,hc⟩:=h.at_ hk;subst e2;exact⟨b,o,c,e,hc⟩
theorem RowOf.near {α:Type} {w:World} {n:Nat} {f:α->List Value} {m:Nat} {b o c:Nat} {l:List α} (h:RowOf w n f (.slice (some ⟨b,o,none⟩) m c) l) {k:Nat} {x:α} (hk:l[k]?=some x) {j:Nat} {u:Value} (hu:(f x)[j]?=some u):w.cell? ⟨b,o+k*n+j,none⟩=some u:=by
 obtain⟨b',o',e2,_,hc⟩:=h.at_ hk;injection e2 with e2;injection e2 with e2 e3;subst e2 e3;exact hc j u hu
theorem aH.jE {L:aH} {k:Nat} (hk:k<L.af.length):L.af[k]?=some (L.ins k):=by
 show _=some (L.af.getD (Int.toNat (k:Int)) _)
 rw[Int.toNat_natCast,List.getD_eq_getElem?_getD,List.getElem?_eq_getElem hk];rfl
theorem aH.Hu {L:aH} {k:Nat} (hk:k<L.ah.length):L.ah[k]?=some (L.und k):=by
 show _=some (L.ah.getD (Int.toNat (k:Int)) _)
 rw[Int.toNat_natCast,List.getD_eq_getElem?_getD,List.getElem?_eq_getElem hk];rfl
theorem aH.Good.xw {L:aH} (h:L.Good) {k:Nat} (hk:k<L.af.length):(L.ins k).Ok L.ah.length:=h.Ff (by omega) (by omega)
theorem sK {w:World} {b:Nat} {cs:Array Value} {T:TypeId} (hb:w.heap[b]?=some (.cells cs T (0,0))) {o:Nat} {v:Value} (ho:cs[o]?=some v):w.cell? ⟨b,o,none⟩=some v:=(cell_of_heap hb o).trans ho
structure aH.gZ (L:aH):Prop where
 things:ji L
 accounts:jy L
 bulk:L.bulk<=1000000
theorem aH.Good.pJ {L:aH} (h:L.Good):L.gZ:=⟨h.things,h.accounts,(Go.Proofs.YtcepekniflaoaaaGreatDoor.iq h).1⟩
theorem aH.gZ.iV {L:aH} (h:L.gZ) {k:Nat} (hk:k<L.ai.length):(L.acc k).aT.length=L.aQ.length:=(h.accounts.ai k _ (aH.Em hk)).1
theorem aH.gZ.Ba {L:aH} (h:L.gZ):L.bulk<=1000000/\(∀ a∈L.ai,a.aT.length<=4)/\L.ai.length<=16:=by
 refine⟨h.bulk,fun a ha=>?_,by simpa [aH.parents] using h.accounts.tree.hi⟩;obtain⟨n,hn⟩:=List.getElem?_of_mem ha;rw[(h.accounts.ai n a hn).1];exact h.things.c1
theorem aH.gZ.xw {L:aH} (h:L.gZ) {k:Nat} (hk:k<L.af.length):(L.ins k).Ok L.ah.length:=h.things.af _ (List.mem_of_getElem? (aH.jE hk))
theorem aH.gZ.Oj {L:aH} (h:L.gZ) {k:Nat} (hk:k<L.af.length):∃ m:Nat,(L.ins k).under=m/\m<L.ah.length/\L.ah[m]?=some (L.und (L.ins k).under):=by
 have hi:=h.xw hk;have h1:=hi.1;have h2:=hi.2.1;refine⟨(L.ins k).under.toNat,by omega,by omega,?_⟩;have e:(L.ins k).under=(((L.ins k).under.toNat:Nat):Int):=by omega
 rw[e,Int.toNat_natCast];exact aH.Hu (by omega)
theorem aH.gZ.nK {L:aH} (h:L.gZ) {k:Nat} (hk:k<L.af.length):∃ cu:Nat,L.dG k=cu/\cu<L.aQ.length:=by
 obtain⟨m,e,hm,hu⟩:=h.Oj hk;have:=h.things.ah m _ hu;obtain⟨_,c0,c1,_⟩:=this;refine⟨(L.dG k).toNat,?_,?_⟩
 ·show (L.und (L.ins k).under).cur=_;unfold aH.dG;omega
 unfold aH.dG;omega
theorem dW.pJ {L M:aH} (h:dW L M) (g:L.gZ):M.gZ:=by
 have hp:M.ai.map (·.parent)=L.ai.map (·.parent):=by
  have:=congrArg (List.map (fun x:Int×Bool×Int×Nat=>x.1)) h.ai
  simpa [List.map_map,Function.comp_def] using this
 have T:=g.things;refine⟨⟨by rw[h.aQ];exact T.c0,by rw[h.aQ];exact T.c1,by rw[h.ah];exact T.u1,by rw[h.af];exact T.i1,by rw[h.aQ];exact T.aQ,by rw[h.ah,h.aQ];exact T.ah,by rw[h.ah];exact T.names,by rw[h.af,h.ah];exact T.af⟩,
  ⟨by rw[hp];exact g.accounts.tree,fun v a ha=>?_⟩,by have:=g.bulk;unfold aH.bulk at this ⊢;rw[h.aQ,h.ah,h.af,h.au,h.orders,h.aG,h.aJ,h.len];exact this⟩
 obtain⟨b,hb,e⟩:=uK h.ai ha;obtain⟨o1,o2,o3,o4,o5⟩:=g.accounts.ai v b hb
 simp only[Prod.mk.injEq] at e
 obtain⟨e1,e2,e3,e4⟩:=e;exact⟨by rw[h.aQ,<-e4];exact o1,by rw[<-e3];exact o2,by rw[<-e3];exact o3,fun hv=>by rw[<-e2,<-e3];exact o4 hv,fun x hx=>h.fits (fun a ha x hx=>by
  obtain⟨n,hn⟩:=List.getElem?_of_mem ha;exact (g.accounts.ai n a hn).2.2.2.2 x hx) a (List.mem_of_getElem? ha) x hx⟩
end Go.Bw
namespace Go.Proofs.YtcepekniflaoaaaGreatDoor
open Go.RowKit Go.Bw Go.Maps Go.Shelf Go.Bw.Fall
def jv (er:Int):List PanicEntry:=[{ v:=.iface 99 (.agg #[.int .i64 er]),recovered:=false }]
theorem kU (er:Int) (w:World):Calls Tryz.prog 20 #[.bool true,.int .i64 er] w fun e w'=>e=.returned (.tuple #[])/\w=w':=by
 go_enter Tryz.func20,Tryz.ntmps20
 go_wp2_with fail
 go_end0
 exact⟨rfl,rfl⟩
theorem fZ (er:Int) (w:World):Calls Tryz.prog 20 #[.bool false,.int .i64 er] w fun e w'=>e=.panicked (jv er)/\w=w':=by
 go_enter Tryz.func20,Tryz.ntmps20
 go_wp2_with fail
 exact⟨rfl,rfl,rfl⟩
theorem kT (p:Prop) [Decidable p] (er:Int) (w:World):Calls Tryz.prog 20 #[.bool (decide p),.int .i64 er] w fun e w'=>((p/\e=.returned (.tuple #[]))\/(¬ p/\e=.panicked (jv er)))/\w=w':=by
 by_cases h:p
 ·rw[decide_eq_true h];exact (kU er w).mono fun e w' h'=>⟨Or.inl ⟨h,h'.1⟩,h'.2⟩
 rw[decide_eq_false h];exact (fZ er w).mono fun e w' h'=>⟨Or.inr ⟨h,h'.1⟩,h'.2⟩
theorem xA (w:World):Calls Tryz.prog 63 #[.int .i64 0] w fun e w'=>e=.returned (.tuple #[])/\w=w':=by
 go_enter Tryz.func63,Tryz.ntmps63
 go_wp2_with fail
 go_end0
 exact⟨rfl,rfl⟩
theorem uJ (er:Int) (h:er≠0) (w:World):Calls Tryz.prog 63 #[.int .i64 er] w fun e w'=>e=.panicked (jv er)/\w=w':=by
 have h':(er != 0)=true:=by rw[bne_iff_ne];exact h
 clear h
 go_enter Tryz.func63,Tryz.ntmps63
 go_wp2_with fail
 exact⟨rfl,rfl,rfl⟩
theorem qw (x:Int) (w:World):Calls Tryz.prog 22 #[.int .i64 x,.int .i64 0] w fun e w'=>e=.returned (.int .i64 x)/\w=w':=by
 go_enter Tryz.func22,Tryz.ntmps22
 go_wp2_with fail
 refine (xA _).mono ?_;rintro e w' ⟨rfl,rfl⟩
 go_wp2_with fail
 go_ret;exact⟨rfl,rfl⟩
theorem nT (x er:Int) (h:er≠0) (w:World):Calls Tryz.prog 22 #[.int .i64 x,.int .i64 er] w fun e w'=>e=.panicked (jv er)/\w=w':=by
 have H:=zq h;clear h
 go_enter Tryz.func22,Tryz.ntmps22
 go_wp2_with fail
 refine (uJ er H.o _).mono ?_;rintro e w' ⟨rfl,rfl⟩
 go_wp2_with fail
 exact⟨rfl,rfl,rfl⟩
theorem zk {T:TypeId} {ops:Array Oper} {rest:List Oper} {o:Oper} {a:Act} {W:World} {Q:Exit->Act->World->Prop} {x:Operand} {b:Nat} {cs:Array Value} (hb:W.heap[b]?=some (.cells cs T (0,0))) (hc:mO cs)
 (hgd:o.guard=none) (ho:o.op=.load 31 x) (hx:a.eval x=.pointer (some ⟨b,0,none⟩)) (h:wpList Tryz.prog ops Q rest (a.put o.dst (.agg cs)) W):wpList Tryz.prog ops Q (o::rest) a W:=by
 obtain⟨d,hu,hd⟩:=iO;exact wpList_load_row hgd 31 x ho b hx T cs (0,0) d hb hu (by cases d <;> first|rfl|exact hd) (by rw[fO,hc.size]) h
theorem Fg {T:TypeId} {ops:Array Oper} {rest:List Oper} {o:Oper} {a:Act} {W:World} {Q:Exit->Act->World->Prop} {x y:Operand} {b:Nat} {old cs:Array Value} (hb:W.heap[b]?=some (.cells old T (0,0))) (h0:mO old) (hc:mO cs)
 (hgd:o.guard=none) (ho:o.op=.store 31 x y) (hx:a.eval x=.pointer (some ⟨b,0,none⟩)) (hy:a.eval y=.agg cs) (h:wpList Tryz.prog ops Q rest (a.put o.dst undef) (W.setRow b cs)):wpList Tryz.prog ops Q (o::rest) a W :=
 wpList_store_row hgd 31 x y ho b cs hx hy T old hb (by rw[fO,hc.size]) (by rw[h0.size,hc.size]) hc.one h
noncomputable def zX (M:aH) (n:Int):aH×Int×Int:=if (gJ M).2=0 then ((gJ M).1,n,0) else (L0,0,(gJ M).2)
theorem KY {L:aH} {r:yP} (hg:L.Good) (he:r.err=0):jM L r=zX r.led r.num:=by
 unfold zX;by_cases h:(gJ r.led).2=0
 ·rw[sG hg he h,if_pos h]
 rw[uz hg he h,if_neg h]
theorem sN (W:World):(Instr.build 31 #[]).run Tryz.prog W=.ok (.agg aZ) W:=by kernel_rfl
theorem NV (w:World) (V:aB) (M:aH) (h:bK w V M) (hg:M.Good) (n:Int):Calls Tryz.prog 39 #[V.val M,.int .i64 n] w (pV w (zX M n)):=by
 have hbl:=sN;have LC:=zq (iC h);have FL:=zq (fun W (hb:Below w.heap.size w W)=>Gw W V M (h.below hb) hg);unfold aB.val at FL ⊢;obtain⟨C,hC⟩:=Zn (V.cells M);rw[<-hC] at FL LC ⊢;obtain⟨X,er,hX⟩:∃ X er,gJ M=(X,er):=⟨_,_,rfl⟩;have EY:=zq (show er=0->zX M n=(X,n,0) from fun h=>by unfold zX;rw[hX,if_pos h]);have EZ:=zq (show er≠0->zX M n=(L0,0,er) from fun h=>by unfold zX;rw[hX,if_neg h]);rw[hX] at FL;obtain⟨W0,hW0⟩:=Zn ((w.alloc (.cells C 31)).alloc (.cells #[.int .i64 0,.slice none 0 0,.slice none 0 0,.slice none 0 0,.slice none 0 0,.slice none 0 0,.slice none 0 0,.slice none 0 0,.slice none 0 0] 31));obtain⟨b0,hb0⟩:=Zn w.heap.size;have X0:=zq (show At w W0 [(b0, 31,C),(b0+1, 31,aZ)] from by
  have a:=((At.start w).alloc 31 C).alloc 31 #[.int .i64 0,.slice none 0 0,.slice none 0 0,.slice none 0 0,.slice none 0 0,.slice none 0 0,.slice none 0 0,.slice none 0 0,.slice none 0 0];have e:∀ (w:World) (o:Obj),(w.alloc o).heap.size=w.heap.size+1:=fun w o=>by simp
  simp only[e] at a
  rw[<-hW0,<-hb0] at a;exact a)
 clear h hg hC hX
 go_enter Tryz.func39,Tryz.ntmps39
 go_upto_region 1 with (fail)
 rw[<-hW0,<-hb0];clear hW0 hb0
 go_wp2_with (refine bW (X0.o.get 0 rfl) LC.o rfl rfl rfl ?_)
 refine (FL.o W0 X0.o.low).mono ?_;rintro e w2 ⟨U,rfl,own,hb⟩;have OW:=zq own;have A2:=zq (X0.o.go hb);have S0:=zq (show b0+1<W0.heap.size from X0.o.lt (b0+1, 31,aZ) (by simp));have LU:=zq (iC own.led);unfold aB.val;clear own hb FL X0
 go_upto_region 2 with (refine aW (heap_alloc_last _ _) bG LU.o rfl rfl rfl rfl ?_;rw[World.setRow_alloc_new])
 obtain⟨W3,hW3⟩:=Zn (w2.alloc (.cells (U.cells X) 31));obtain⟨b3,hb3⟩:=Zn w2.heap.size;have A3:=zq (show At w W3 [(b0, 31,C),(b0+1, 31,aZ),(b3, 31,U.cells X)] from by rw[hW3,hb3];exact A2.o.alloc _ _);have OW:=zq (show bF W3 W0.heap.size U X from by rw[hW3];exact OW.o.below (Zb));rw[<-hW3,<-hb3];clear hW3 hb3 A2;have SW:=zq (show w.heap.size<=b0 from A3.o.new (b0, 31,C) (by simp));by_cases hz:er=0
 ·have EE:=zq (EY.o hz);subst hz;clear EY EZ
  go_wp2_with (first|refine bW (A3.o.get 2 rfl) LU.o rfl rfl rfl ?_|refine aW (A3.o.get 1 rfl) bG LU.o rfl rfl rfl rfl ?_)
  refine bodyPost_ret (bZ rfl _ _ (setRow_heap _ _ _ _ _ _ (A3.o.get 1 rfl)) LU.o rfl) rfl ⟨U,by rw[EE.o];rfl,?_,(A3.o.setRow 1 rfl _).low⟩;rw[EE.o];exact (OW.o.mod (bJ (w:=W3) (b0+1) _) (fun k hk _ e=>by have:=S0.o;omega)).base (by have:=S0.o;have:=SW.o;omega)
 have HZ:=zq hz;have hz':(er != 0)=true:=by rw[bne_iff_ne];exact hz
 clear hz
 go_wp2_with (refine aW (cs:=aZ) (A3.o.get 1 rfl) bG bG rfl rfl rfl rfl ?_)
 refine bodyPost_ret (bZ (cs:=aZ) rfl _ _ (setRow_heap _ _ _ _ _ _ (A3.o.get 1 rfl)) bG rfl) rfl ⟨V0,by rw[EZ.o HZ.o];rfl,?_,(A3.o.setRow 1 rfl _).low⟩;rw[EZ.o HZ.o];exact FW _ _
theorem sS {w W W2:World} {bs:List (Nat×TypeId×Array Value)} {V:aB} {L:aH} (A:At w W bs) (own:bF W2 W.heap.size V L) (hb:Below W.heap.size W W2) :
 dB w W.heap.size ((W2.heap.size, 31,V.cells L)::bs) V L (W2.alloc (.cells (V.cells L) 31)):=by
 have ha:Below W2.heap.size W2 (W2.alloc (.cells (V.cells L) 31)):=Zb;refine⟨((A.go hb).alloc _ _).perm List.perm_append_comm,own.below ha,fun x hx=>?_,Nat.le_trans hb.size ha.size,A.low.size⟩;rcases List.mem_cons.1 hx with rfl|hx
 ·exact own.zu (Or.inr (Nat.le_refl _))
 exact own.zu (Or.inl (A.lt x hx))
theorem Io {w W w2:World} {bs:List (Nat×TypeId×Array Value)} {U:aB} {a:aH×Int×Int} {k r:Nat} {T:TypeId} {old:Array Value} {n er:Int} {L:aH} {s:yP} {cs:Array Value} (A:At w W bs) (hb:Below W.heap.size W w2) (own:bF w2 W.heap.size U a.1) (hk:bs[k]?=some (r,T,old)) (e:a=jM L s) (hn:n=a.2.1) (he:er=a.2.2) (hc:cs=U.cells a.1) :
 pV w (jM L s) (.returned (.tuple #[.agg cs,.int .i64 n,.int .i64 er])) (w2.setRow r cs):=by
 subst e;subst hn;subst he;subst hc;have hlt:=A.lt _ (List.mem_of_getElem? hk);exact⟨U,rfl,(own.mod (bJ (w:=w2) r _) (fun j hj _ e=>by subst e;simp at hlt;omega)).base A.low.size,((A.go hb).setRow k hk _).low⟩
theorem fB {w W:World} {bs:List (Nat×TypeId×Array Value)} {k r:Nat} {old:Array Value} {er:Int} {L:aH} {s:yP} (A:At w W bs) (hk:bs[k]?=some (r, 31,old)) (e:jM L s=(L0,0,er)) :
 pV w (jM L s) (.returned (.tuple #[.agg aZ,.int .i64 0,.int .i64 er])) (W.setRow r aZ):=by
 rw[e];exact⟨V0,rfl,FW _ _,(A.setRow k hk _).low⟩
def KJ (w:World) (r:aH×Int) (e:Ending) (w':World):Prop :=
 Below w.heap.size w w'/\((r.2=0/\∃ U:aB,e=.returned (.tuple #[U.val r.1,.int .i64 0])/\bF w' w.heap.size U r.1)\/(r.2≠0/\e=.returned (.tuple #[.agg aZ,.int .i64 r.2])))
theorem qG:Tryz.f86.results=#[.cell 10 31,.tmp 11]:=by kernel_rfl
theorem QW (f t:Int) (W:World):(Instr.build 32 #[(0,.int .i64 f),(1,.int .i64 t)]).run Tryz.prog W=.ok (.agg #[.int .i64 f,.int .i64 t]) W:=by kernel_rfl
theorem Q8 (f t:Nat) (k:Nat) (hk:k<2):∃ v:Nat,(v=f\/v=t)/\∀ W,(Instr.index 32 (.agg #[.int .i64 (f:Int),.int .i64 (t:Int)]) (.int .i64 (k:Int))).run Tryz.prog W=.ok (.int .i64 (v:Int)) W:=by
 have:k=0\/k=1:=by omega
 rcases this with rfl|rfl
 ·exact⟨f,Or.inl rfl,fun W=>by kernel_rfl⟩
 exact⟨t,Or.inr rfl,fun W=>by kernel_rfl⟩
theorem Nq (w:World) (V:aB) (L:aH) (h:bK w V L) (hG:L.gZ) (c f t:Nat) (hc:c<L.aQ.length) (hf:f<L.ai.length) (ht:t<L.ai.length) (x:Int) (hx:I64 x) :
 Calls Tryz.prog 86 #[V.val L,.int .i64 (c:Int),.int .i64 x,.int .i64 (f:Int),.int .i64 (t:Int)] w (KJ w (fP L c x f t)):=by
 have LC:=zq (iC h);have hbl:=sN;have CP:=zq (fun W (hb:Below w.heap.size w W)=>wS W V L (h.below hb) (hG.Ba).1 (fun a ha=>Nat.le_trans ((hG.Ba).2.1 a ha) (by omega)));have HX:=zq hx;obtain⟨P,hP⟩:=Zn (fP L c x f t);obtain⟨s1,e1,h1⟩:∃ s e,fK (L.aT f c) x=(s,e):=⟨_,_,rfl⟩;have PA:=zq (show (e1≠0->P=(aH.none,e1))/\(e1=0->∀ s2 e2,dQ ((L.di f c s1).aT t c) x=(s2,e2)->(e2≠0->P=(aH.none,e2))/\(e2=0->P=((L.di f c s1).di t c s2,0))) from by
  rw[hP];unfold fP;rw[h1];refine⟨fun h=>by rw[if_neg h],fun h s2 e2 h2=>?_⟩;rw[if_pos h];simp only;rw[h2];exact⟨fun h=>by rw[if_neg h],fun h=>by rw[if_pos h]⟩)
 have SF:=zq (show e1=0->aO s1=true from fun h=>by have:=uS (a:=L.aT f c) (b:=x) (by rw[h1];exact h);rw[h1] at this;exact this);have H1:=zq h1;rw[<-hP];clear hP h1;have HG:=zq hG;obtain⟨n4,hn4⟩:=Zn L.ai.length;obtain⟨n1,hn1⟩:=Zn L.aQ.length;have N4:=zq hn4;have N1:=zq hn1;rw[<-hn1] at hc;rw[<-hn4] at hf ht;have HC:=zq (And.intro hc (And.intro hf ht));have U6:=zq (show n4<=16/\n1<=4 from ⟨by rw[hn4];exact (hG.Ba).2.2,by rw[hn1];exact hG.things.c1⟩);unfold aB.val at CP ⊢;obtain⟨C,hC⟩:=Zn (V.cells L);have EC:=zq hC;rw[<-hC] at CP LC ⊢;obtain⟨W0,hW0⟩:=Zn ((w.alloc (.cells C 31)).alloc (.cells #[.int .i64 0,.slice none 0 0,.slice none 0 0,.slice none 0 0,.slice none 0 0,.slice none 0 0,.slice none 0 0,.slice none 0 0,.slice none 0 0] 31));obtain⟨b0,hb0⟩:=Zn w.heap.size;have X0:=zq (show At w W0 [(b0, 31,C),(b0+1, 31,aZ)] from by
  have a:=((At.start w).alloc 31 C).alloc 31 #[.int .i64 0,.slice none 0 0,.slice none 0 0,.slice none 0 0,.slice none 0 0,.slice none 0 0,.slice none 0 0,.slice none 0 0,.slice none 0 0];have e:∀ (w:World) (o:Obj),(w.alloc o).heap.size=w.heap.size+1:=fun w o=>by simp
  simp only[e] at a
  rw[<-hW0,<-hb0] at a;exact a)
 have LW:=zq (h.below X0.o.low);obtain⟨p0,b,o,b2,o2,c4,c2,CA⟩:=LW.o.lV (k:=f) (m:=c) (by rw[<-hn4];exact hf) (by rw[hG.iV (by rw[<-hn4];exact hf),<-hn1];exact hc);have EA:=zq CA.row;have CV:=zq (show ∀ v,v<n4->∃ b2 o2 c2,W0.cell? ⟨b,o+v*4+1,none⟩=some (.slice (some ⟨b2,o2,none⟩) n1 c2) from fun v hv=>by
  obtain⟨p',b',o',b2',o2',c4',c2',A⟩:=LW.o.lV (k:=v) (m:=c) (by rw[<-hn4];exact hv) (by rw[hG.iV (by rw[<-hn4];exact hv),<-hn1];exact hc);have e:=A.row;rw[EA.o] at e;injection e with e;injection e with e;injection e with e e3;subst e e3;refine⟨b2',o2',c2',?_⟩;have:=A.OA;rw[hG.iV (by rw[<-hn4];exact hv),<-hn1] at this;exact this)
 have y4:W0.cell? ⟨b0,4,none⟩=some (.slice (some ⟨b,o,none⟩) n4 c4):=X0.o.cell 0 rfl 4 (by rw[hC,hn4,<-EA.o];rfl);have bt:=QW (f:Int) (t:Int);clear h hG hC hx hf ht hc hn4 hn1 CA LW
 go_enter Tryz.func86,Tryz.ntmps86
 go_upto_region 1 with (fail)
 rw[<-hW0,<-hb0];clear hW0 hb0
 go_wp2_with fail
 go_loop [20] (fun i=>∃ k:Nat,k<=2/\i=.int .i64 k) (fun i=>2 - (intOf i).toNat)
 case atStart=>exact⟨0,by omega,rfl⟩
 obtain⟨k,hk,rfl⟩:=hrel;by_cases hlt:k<2
 ·have hlt':(k:Int)<2:=by omega
  obtain⟨v,hv,ix⟩:=Q8 f t k hlt;have hv4:v<n4:=by have:=HC.o;rcases hv with rfl|rfl <;> omega
  obtain⟨b3,o3,c3,q1⟩:=CV.o v hv4;have k0:(0:Int)<=(v:Int):=by omega
  have k1:(v:Int)<(n4:Int):=by omega
  have k2:¬ (v:Int)<0:=by omega
  have k3:¬ (n4:Int)<=(v:Int):=by omega
  have m2:¬ (c:Int)<0:=by omega
  have m3:¬ (n1:Int)<=(c:Int):=by have:=HC.o.1;omega
  have LT:=zq hlt;clear hv hv4 hlt
  go_wp2_with fail
  go_round
  case rel=>exact⟨k+1,by have:=LT.o;omega,by go_num⟩
  case measure=>have:=LT.o;simp[intOf];omega
 have hlt':¬ (k:Int)<2:=by omega
 go_wp2_with (refine bW (X0.o.get 0 rfl) LC.o rfl rfl rfl ?_)
 refine (CP.o W0 X0.o.low).mono ?_;rintro e w2 ⟨V2,rfl,own,hb⟩;have FF:=zq (sS X0.o own hb);have B2:=zq hb;have L2:=zq (iC own.led);unfold aB.val;clear own hb CP y4 hlt hlt' CV
 go_upto_region 10 with (refine aW (heap_alloc_last _ _) bG L2.o rfl rfl rfl rfl ?_;rw[World.setRow_alloc_new])
 obtain⟨W5,hW5⟩:=Zn (w2.alloc (.cells (V2.cells L) 31));obtain⟨b5,hb5⟩:=Zn w2.heap.size;rw[<-hW5,<-hb5] at FF;rw[<-hW5,<-hb5];clear hW5 hb5;obtain⟨p,g,g2,cg,cg2,A,hz⟩:=FF.o.own.lV (k:=f) (m:=c) (by rw[<-N4.o];exact HC.o.2.1) (by rw[HG.o.iV (by rw[<-N4.o];exact HC.o.2.1),<-N1.o];exact HC.o.1);have AA:=zq A;have ZZ:=zq hz;have IY:=zq (show I64 (L.aT f c) from ⟨by have:=A.fits;omega,by have:=A.fits;omega⟩);obtain⟨y,hy⟩:=Zn (L.aT f c);rw[<-hy] at IY H1;have y4:W5.cell? ⟨b5,4,none⟩=some (.slice (some ⟨g,0,none⟩) n4 cg):=FF.o.at_.cell 0 rfl 4 (by rw[N4.o,<-A.row];rfl);have q1:W5.cell? ⟨g,f*4+1,none⟩=some (.slice (some ⟨g2,0,none⟩) n1 cg2):=by have:=A.OA;rw[Nat.zero_add,HG.o.iV (by rw[<-N4.o];exact HC.o.2.1),<-N1.o] at this;exact this
 have q2:W5.cell? ⟨g2,c,none⟩=some (.int .i64 y):=by have:=A.at2;rw[Nat.zero_add] at this;rw[hy];exact this
 have k0:(0:Int)<=(f:Int):=by omega
 have k1:(f:Int)<(n4:Int):=by have:=HC.o;omega
 have m0:(0:Int)<=(c:Int):=by omega
 have m1:(c:Int)<(n1:Int):=by have:=HC.o;omega
 have SB:=zq (fun W=>nP y x IY.o HX.o W);rw[H1.o] at SB;clear A hz hy
 go_wp2_with fail
 refine (SB.o _).mono ?_;rintro e w3 ⟨rfl,rfl⟩;clear SB;by_cases hz:e1=0
 ·subst hz;have S1:=zq (SF.o rfl);have F7:=zq (FF.o.di AA.o S1.o);have zf:W5.frozen? ⟨g2,c,none⟩=false:=ZZ.o
  go_upto_region 14 with (fail)
  obtain⟨V7,hV7⟩:∃ U:aB,U={ V2 with ac:=V2.ac.set f ({ p.1 with aT:=p.1.aT.set c s1 },p.2) }:=⟨_,rfl⟩;obtain⟨L7,hL7⟩:∃ l:aH,l=L.di f c s1:=⟨_,rfl⟩;obtain⟨W7,hW7⟩:=Zn (W5.setCell ⟨g2,c,none⟩ (.int .i64 s1));have E7:=zq (show V2.cells L=V7.cells L7 from by rw[hV7,hL7];rfl);rw[<-hV7,<-hL7,<-hW7] at F7;have N7:=zq (show L7.ai.length=n4/\∀ k,k<n4->(L7.acc k).aT.length=n1 from by
   have hg:dW L L7:=by rw[hL7];exact oD L f c s1 ⟨by omega,by have:=HC.o;have:=N4.o;omega⟩ S1.o
   refine⟨by rw[hg.len,N4.o],fun k hk=>?_⟩;rw[(hg.pJ HG.o).iV (by rw[hg.len,<-N4.o];exact hk),hg.aQ,N1.o])
  have EL7:=zq hL7;rw[<-hW7];clear hW7 hV7 hL7 y4 q1 q2 zf k0 k1;obtain⟨p',g',g2',cg',cg2',A',hz'⟩:=F7.o.own.lV (k:=t) (m:=c) (by rw[N7.o.1];exact HC.o.2.2) (by rw[N7.o.2 _ HC.o.2.2];exact HC.o.1);have AB:=zq A';have ZZ:=zq hz';have IY:=zq (show I64 (L7.aT t c) from ⟨by have:=A'.fits;omega,by have:=A'.fits;omega⟩);obtain⟨y,hy⟩:=Zn (L7.aT t c);obtain⟨s2,e2,h2⟩:∃ s e,dQ y x=(s,e):=⟨_,_,rfl⟩;have PB:=zq (PA.o.2 (by first|rfl|trivial) s2 e2 (by rw[<-EL7.o,<-hy];exact h2));have S2:=zq (show e2=0->aO s2=true from fun h=>by have:=uy (a:=y) (b:=x) (by rw[h2];exact h);rw[h2] at this;exact this);rw[<-hy] at IY;have y4:W7.cell? ⟨b5,4,none⟩=some (.slice (some ⟨g',0,none⟩) n4 cg'):=F7.o.at_.cell 0 rfl 4 (by rw[E7.o,<-N7.o.1,<-A'.row];rfl);have q1:W7.cell? ⟨g',t*4+1,none⟩=some (.slice (some ⟨g2',0,none⟩) n1 cg2'):=by have:=A'.OA;rw[Nat.zero_add,N7.o.2 _ HC.o.2.2] at this;exact this
  have q2:W7.cell? ⟨g2',c,none⟩=some (.int .i64 y):=by have:=A'.at2;rw[Nat.zero_add] at this;rw[hy];exact this
  have k0:(0:Int)<=(t:Int):=by omega
  have k1:(t:Int)<(n4:Int):=by have:=HC.o;omega
  have AD:=zq (fun W=>lZ y x IY.o HX.o W);rw[h2] at AD;clear A' hz' hy h2
  go_wp2_with fail
  refine (AD.o _).mono ?_;rintro e w3 ⟨rfl,rfl⟩;clear AD;by_cases hz:e2=0
  ·subst hz;have PC:=zq (PB.o.2 (by first|rfl|trivial));have F8:=zq (F7.o.di AB.o (S2.o (by first|rfl|trivial)));have zf:W7.frozen? ⟨g2',c,none⟩=false:=ZZ.o
   go_upto_region 18 with (fail)
   obtain⟨V8,hV8⟩:∃ U:aB,U={ V7 with ac:=V7.ac.set t ({ p'.1 with aT:=p'.1.aT.set c s2 },p'.2) }:=⟨_,rfl⟩;obtain⟨L8,hL8⟩:∃ l:aH,l=L7.di t c s2:=⟨_,rfl⟩;obtain⟨W8,hW8⟩:=Zn (W7.setCell ⟨g2',c,none⟩ (.int .i64 s2));have E8:=zq (show V2.cells L=V8.cells L8 from by rw[E7.o,hV8,hL8];rfl);rw[<-hV8,<-hL8,<-hW8] at F8;have PD:=zq (show P=(L8,0) from by rw[PC.o,hL8,EL7.o]);rw[<-hW8];clear hW8 hV8 hL8 y4 q1 q2 zf
   go_wp2_with (first|refine bW (F8.o.at_.get 0 rfl) L2.o rfl rfl rfl ?_|refine aW (F8.o.at_.get 2 rfl) bG L2.o rfl rfl rfl rfl ?_)
   refine bodyPost_ret (eF (q:=11) qG _ _ (b0+1) _ rfl (setRow_heap _ _ _ _ _ _ (F8.o.at_.get 2 rfl)) L2.o) rfl ⟨(F8.o.at_.setRow 2 rfl _).low,Or.inl ⟨by rw[PD.o],V8,?_,?_⟩⟩
   ·rw[PD.o,E8.o];rfl
   rw[PD.o];have hlt:=X0.o.lt (b0+1, 31,aZ) (by simp);exact (F8.o.own.mod (bJ (w:=W8) (b0+1) (V2.cells L)) (fun j hj _ e=>by subst e;simp at hlt;omega)).base X0.o.low.size
  have HZ:=zq hz;have PC:=zq (PB.o.1 hz);have hz':(e2 != 0)=true:=by rw[bne_iff_ne];exact hz
  clear hz
  go_wp2_with (refine aW (cs:=aZ) (F7.o.at_.get 2 rfl) bG bG rfl rfl rfl rfl ?_)
  refine bodyPost_ret (eF (q:=11) qG _ _ (b0+1) _ rfl (setRow_heap _ _ _ _ _ _ (F7.o.at_.get 2 rfl)) bG) rfl ⟨(F7.o.at_.setRow 2 rfl _).low,Or.inr ⟨by rw[PC.o];exact HZ.o,by rw[PC.o];rfl⟩⟩
 have HZ:=zq hz;have PC:=zq (PA.o.1 hz);have hz':(e1 != 0)=true:=by rw[bne_iff_ne];exact hz
 clear hz
 go_wp2_with (refine aW (cs:=aZ) (FF.o.at_.get 2 rfl) bG bG rfl rfl rfl rfl ?_)
 refine bodyPost_ret (eF (q:=11) qG _ _ (b0+1) _ rfl (setRow_heap _ _ _ _ _ _ (FF.o.at_.get 2 rfl)) bG) rfl ⟨(FF.o.at_.setRow 2 rfl _).low,Or.inr ⟨by rw[PC.o];exact HZ.o,by rw[PC.o];rfl⟩⟩
end Go.Proofs.YtcepekniflaoaaaGreatDoor
