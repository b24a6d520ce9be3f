/- Joined: Sight, Sof, Gain, Loss, Worst, Base, Need, Have. -/
import Derived.Test.YtcepekniflaoaaaGreatDoorGe
import Derived.Test.YtcepekniflaoaaaGreatDoorGa
import Derived.Deep.WholeRow
import Derived.Test.YtcepekniflaoaaaGreatDoorGc
import Derived.Test.YtcepekniflaoaaaGreatDoorGb
import Derived.Test.YtcepekniflaoaaaGreatDoorGd
set_option linter.unusedVariables false
set_option linter.unusedSimpArgs false
set_option maxRecDepth 100000
set_option maxHeartbeats 8000000
namespace Go.Proofs.YtcepekniflaoaaaGreatDoor
open Go.RowKit Go.Bw Go.Maps Go.Shelf
def Ib (w:World) (b:Nat):Prop:=∀ o,w.cell? ⟨b,o,none⟩=none
theorem iQ {α:Type} {w w':World} {n:Nat} {f:α->List Value} {v:Value} {l:List α} {S:Nat->Prop} (h:RowOf w n f v l) (hm:Mod S w w') (hS:∀ k,S k->Ib w k):RowOf w' n f v l:=by
 obtain⟨a,c,h1,h2,h3,h4,h5⟩:=h.ex;refine⟨a,c,h1,h2,h3,h4,fun i x hi=>?_⟩;obtain⟨b,o,e,hb,hc⟩:=h5 i x hi;exact⟨b,o,e,Nat.lt_of_lt_of_le hb hm.size,fun j u hj=>hm.cell (hc j u hj) (fun hs=>by have:=hc j u hj;rw[hS b hs] at this;cases this)⟩
theorem JB {w w':World} {V:aB} {l:aH} {S:Nat->Prop} (h:bK w V l) (hm:Mod S w w') (hS:∀ k,S k->Ib w k):bK w' V l :=
 ⟨iQ h.aQ hm hS,iQ h.ah hm hS,iQ h.af hm hS,h.same,iQ h.ai hm hS,fun p hp=>iQ (h.aT p hp) hm hS,iQ h.au hm hS,iQ h.orders hm hS,iQ h.aG hm hS,iQ h.aJ hm hS,h.names,h.nums⟩
theorem Jd {w w':World} {b:Nat} {cs:Array Value} {S:Nat->Prop} (h:aY w b cs) (hm:Mod S w w') (hS:∀ k,S k->Ib w k):aY w' b cs :=
 ⟨fun j v hj=>hm.cell (h.at_ j v hj) (fun hs=>by have:=h.at_ j v hj;rw[hS b hs] at this;cases this),Nat.lt_of_lt_of_le h.lt hm.size⟩
def kz (l:aH) (k:Nat):Value:=.agg (bI fun s=>l.unit k s)
structure dO (w:World) (b mb:Nat) (bv:Value) (V:aB) (l:aH) (a:Nat):Prop where
 box:aY w b #[.int .i64 l.day,V.aQ,V.ah,V.af,V.ai,V.au,V.orders,V.aG,V.aJ,bv,.map (some mb)]
 led:bK w V l
 below:RowOf w 1 dw bv (ints (gI l.parents a))
 units:MapAt w Tryz.prog 3 mb l.af.length (kz l)
 Q7:rF w
theorem dO.blind {w:World} {b mb:Nat} {bv:Value} {V:aB} {l:aH} {a:Nat} (h:dO w b mb bv V l a):∀ k,k=mb->Ib w k:=by
 rintro k rfl o;exact h.units.blind o
theorem dO.Iz {w:World} {b mb:Nat} {bv:Value} {V:aB} {l:aH} {a:Nat} (h:dO w b mb bv V l a):¬ 5=mb/\¬ 6=mb:=by
 obtain⟨n,D,⟨es,clock,hb,_⟩,_⟩:=h.units.ex;obtain⟨⟨t,f,h1⟩,⟨t2,f2,h2⟩⟩:=h.Q7
 constructor
 ·intro e;rw[e,hb] at h1;cases h1
 intro e;rw[e,hb] at h2;cases h2
theorem dO.turn {w w':World} {b mb:Nat} {bv:Value} {V:aB} {l:aH} {a:Nat} (h:dO w b mb bv V l a) (hm:Mod (fun k=>k=mb) w w') (hu:MapAt w' Tryz.prog 3 mb l.af.length (kz l)):dO w' b mb bv V l a :=
 ⟨Jd h.box hm h.blind,JB h.led hm h.blind,iQ h.below hm h.blind,hu,h.Q7.mod hm h.Iz.1 h.Iz.2⟩
theorem dO.low {w w':World} {b mb:Nat} {bv:Value} {V:aB} {l:aH} {a:Nat} (h:dO w b mb bv V l a) (hb:Below w.heap.size w w'):dO w' b mb bv V l a :=
 ⟨h.box.below hb,h.led.below hb,h.below.below hb,h.units.mod (Mod.of_below hb) (fun h=>h),h.Q7.below hb⟩
structure Turn (w w':World) (b mb:Nat) (bv:Value) (V:aB) (l:aH) (a:Nat):Prop where
 s:dO w' b mb bv V l a
 m:Mod (fun k=>k=mb) w w'
theorem dO.here {w:World} {b mb:Nat} {bv:Value} {V:aB} {l:aH} {a:Nat} (h:dO w b mb bv V l a):Turn w w b mb bv V l a:=⟨h,Mod.refl _ _⟩
theorem Turn.low {w w' w2:World} {b mb:Nat} {bv:Value} {V:aB} {l:aH} {a:Nat} (h:Turn w w' b mb bv V l a) (hb:Below w'.heap.size w' w2):Turn w w2 b mb bv V l a :=
 ⟨h.s.low hb,h.m.trans (T:=fun _=>False) (Mod.of_below hb) (fun _ _ h=>h.elim)⟩
theorem Turn.trans {w w' w2:World} {b mb:Nat} {bv:Value} {V:aB} {l:aH} {a:Nat} (h:Turn w w' b mb bv V l a) (k:Turn w' w2 b mb bv V l a):Turn w w2 b mb bv V l a :=
 ⟨k.s,h.m.trans k.m (fun _ _ h=>h)⟩
def lg (er:Int):List PanicEntry:=[{ v:=.iface 187 (.agg #[.int .i64 er]),recovered:=false }]
def jL (o:Option Int) (e:Ending):Prop:=(∃ x,o=some x/\e=.returned (.int .i64 x))\/(o=none/\e=.panicked (lg 4))
theorem jL.some_ {o:Option Int} {x:Int} (h:o=some x):jL o (.returned (.int .i64 x)):=Or.inl ⟨x,h,rfl⟩
theorem jL.none_ {o:Option Int} (h:o=none):jL o (.panicked (lg 4)):=Or.inr ⟨h,rfl⟩
theorem tK (x:Int) (w:World):Calls Tryz.prog 154 #[.int .i64 x,.int .i64 0] w fun e w'=>e=.returned (.int .i64 x)/\w=w':=by
 go_enter Tryz.func154,Tryz.ntmps154
 go_wp2_with fail
 go_ret;exact⟨rfl,rfl⟩
theorem JE (x er:Int) (w:World) (h:er≠0):Calls Tryz.prog 154 #[.int .i64 x,.int .i64 er] w fun e w'=>e=.panicked (lg er)/\w=w':=by
 have h':(er != 0)=true:=by rw[bne_iff_ne];exact h
 clear h
 go_enter Tryz.func154,Tryz.ntmps154
 go_wp2_with fail
 exact⟨rfl,rfl,rfl⟩
theorem jc (r:Int×Int) (h:r.2=0\/r=(0,4)) (w:World):Calls Tryz.prog 154 #[.int .i64 r.1,.int .i64 r.2] w fun e w'=>jL (iG r) e/\w=w':=by
 rcases h with h|h
 ·rw[h];refine (tK r.1 w).mono ?_;rintro e w' ⟨rfl,hw⟩;exact⟨jL.some_ (by unfold iG;rw[if_pos h]),hw⟩
 rw[h];refine (JE 0 4 w (by decide)).mono ?_;rintro e w' ⟨rfl,hw⟩;exact⟨jL.none_ (by unfold iG;rfl),hw⟩
end Go.Proofs.YtcepekniflaoaaaGreatDoor
namespace Go.Proofs.YtcepekniflaoaaaGreatDoor
open Go.RowKit Go.Bw Go.Maps Go.Shelf Go.Bw.Fall
theorem iW {P:Program} {ops:Array Oper} {C:World->Prop} {Q:Act->Prop} {a:Act} {o:Oper} {rest:List Oper} (hgd:o.guard=none) (ty:TypeId) (x:Operand) (ho:o.op=.load ty x)
 (g:Nat) (hx:a.eval x=.pointer (some ⟨g,0,none⟩)) (t:TypeId) (cs:Array Value) (fr:Nat×Nat) (d:TypeDesc) (hg:∀ w,C w->w.heap[g]?=some (.cells cs t fr))
 (hu:P.underlying ty=some d) (hd:(match d with|.struct _|.array _ _=>true|_=>false)=true) (hi:(P.info? ty).map (·.size)=some cs.size)
 (h:wpQuiet P ops C Q rest (a.put o.dst (.agg cs))):wpQuiet P ops C Q (o::rest) a:=by
 refine wpQuiet_step (fun K hK=>?_);rw[if_pos (by simp[Region.wanted,hgd])];refine⟨.agg cs,fun w hw=>?_,hK _ h⟩;unfold Oper.quietAt execOp
 simp only[ho,hx,Instr.loadAt,Instr.sureAddr,Sem.run_bind,Sem.run_pure,Result.andThen_ok,run_loadVar_row w g t ty cs fr d (hg w hw) hu hd hi]
 exact⟨rfl,rfl⟩
theorem Mod.setRow {w:World} (g:Nat) (cs:Array Value):Mod (fun k=>k=g) w (w.setRow g cs) :=
 ⟨rfl,rfl,rfl,by simp,fun i _ hi=>setRow_other w g i cs hi⟩
theorem QE:Tryz.prog.underlying 182=some (.map 3 191):=by kernel_rfl
theorem Py:Tryz.prog.underlying 3=some (.int .i64):=by kernel_rfl
theorem QJ (w:World):(zeroValue 191).run Tryz.prog w=.ok (.agg (bI fun _=>0)) w:=by kernel_rfl
theorem kG (f:Nat->Int) {s:Nat} (h:s<21):(bI f)[s]?=some (.int .i64 (f s)):=by simp[bI,h]
theorem Qu (w:World) (b mb:Nat) (bv:Value) (V:aB) (L:aH) (a:Nat) (hS:dO w b mb bv V L a) (hg:L.Good) (j:Nat) (hj:j<L.af.length) (s:Nat) (hs:s<21) :
 Calls Tryz.prog 207 #[.pointer (some ⟨b,0,none⟩),.int .i64 (j:Int),.int .i64 (s:Int)] w fun e w'=>e=.returned (.int .i64 (L.unit j s))/\Turn w w' b mb bv V L a:=by
 have HS:=zq hS;have HG:=zq hg;have HJ:=zq hj;have S21:=zq hs;have s0:(0:Int)<=(s:Int):=by omega
 have s1:(s:Int)<21:=by omega
 have j0:(0:Int)<=(j:Int):=by omega
 have c10:w.cell? ⟨b,10,none⟩=some (.map (some mb)):=hS.box.at_ 10 _ rfl;have UJ:=zq (show (kz L j)=.agg (bI fun s=>L.unit j s) from rfl);rcases hS.units.look Py QE (QJ w) hj (by have:=hg.things.i1;omega) with hl|⟨hl,hm⟩
 ·rw[UJ.o] at hl;obtain⟨f,hf⟩:∃ f:Nat->Int,f=fun s=>L.unit j s:=⟨_,rfl⟩
  rw[<-hf] at hl;have EF:=zq (show L.unit j s=f s from by rw[hf]);rw[EF.o];clear hS hg hj hs hf UJ
  go_enter Tryz.func207,Tryz.ntmps207
  have c7:∀ W:World,(W.alloc (.cells (bI f) 191)).cell? ⟨W.heap.size,s,none⟩=some (.int .i64 (f s)):=fun W=>by rw[cell_of_heap (heap_alloc_last W _)];exact kG f S21.o
  go_wp2_with (refine wpList_store_row rfl 191 (.tmp 7) (.tmp 19) rfl w.heap.size (bI f) rfl rfl 191 _ (heap_alloc_last _ _) (ou f).o (by rw[fA];rfl) (fM f) ?_;rw[World.setRow_alloc_new])
  go_ret;exact⟨rfl,HS.o.here.low (Zb)⟩
 have HM:=zq hm;obtain⟨f,hf⟩:∃ f:Nat->Int,f=fun s=>L.unit j s:=⟨_,rfl⟩
 have EF:=zq hf;have EU:=zq (show L.unit j s=f s from by rw[hf]);rw[EU.o];obtain⟨f0,hf0⟩:∃ f:Nat->Int,f=fun _=>0:=⟨_,rfl⟩
 rw[<-hf0] at hl;rw[<-hf] at UJ;clear hS hg hj hs hf hm hf0
 go_enter Tryz.func207,Tryz.ntmps207
 go_upto_region 3 with (refine wpList_store_row rfl 191 (.tmp 7) (.tmp 19) rfl w.heap.size (bI f0) rfl rfl 191 _ (heap_alloc_last _ _) (ou f0).o (by rw[fA];rfl) (fM f0) ?_;rw[World.setRow_alloc_new])
 obtain⟨W1,hW1⟩:=Zn (w.alloc (.cells (bI f0) 191));obtain⟨b7,hb7⟩:=Zn w.heap.size;have T1:=zq (show Turn w W1 b mb bv V L a/\W1.heap[b7]?=some (.cells (bI f0) 191 (0,0))/\w.heap.size<=b7/\b7<W1.heap.size/\jq W1 Tryz.prog 3 mb L.af.length (kz L) j from by
  rw[hW1,hb7];exact⟨HS.o.here.low (Zb),heap_alloc_last _ _,Nat.le_refl _,by simp,HM.o.mod ((Mod.refl (fun _=>False) w).alloc _) (fun h=>h)⟩)
 rw[<-hW1,<-hb7];clear hW1 hb7 HM c10;obtain⟨a3,ci,e3⟩:=HS.o.led.af.form;obtain⟨a2,cu,e2⟩:=HS.o.led.ah.form;obtain⟨x,hx⟩:∃ x,L.af[j]?=some x:=⟨_,List.getElem?_eq_getElem HJ.o⟩;have EX:=zq (show L.ins (j:Int)=x from by unfold aH.ins;simp[hx]);obtain⟨u,hu⟩:∃ u:Nat,x.under=u:=by
  have:=HG.o.things.af x (List.mem_of_getElem? hx);exact⟨x.under.toNat,by have:=this.1;omega⟩
 have hul:u<L.ah.length:=by have:=(HG.o.things.af x (List.mem_of_getElem? hx)).2.1;omega
 obtain⟨y,hy⟩:∃ y,L.ah[u]?=some y:=⟨_,List.getElem?_eq_getElem hul⟩;have EY:=zq (show L.und (u:Int)=y from by unfold aH.und;simp[hy]);obtain⟨ib,io,rfl,_⟩:=(show RowOf w 7 Ins.cells (.slice a3 L.af.length ci) L.af from by rw[<-e3];exact HS.o.led.af).at_ hx;obtain⟨ub,uo,rfl,_⟩:=(show RowOf w 4 dX.cells (.slice a2 L.ah.length cu) L.ah from by rw[<-e2];exact HS.o.led.ah).at_ hy;obtain⟨NI,hNI⟩:=Zn L.af.length;obtain⟨NU,hNU⟩:=Zn L.ah.length;have CELLS:=zq (show ∀ W:World,dO W b mb bv V L a->W.cell? ⟨b,0,none⟩=some (.int .i64 L.day)/\W.cell? ⟨b,2,none⟩=some (.slice (some ⟨ub,uo,none⟩) NU cu)/\W.cell? ⟨b,3,none⟩=some (.slice (some ⟨ib,io,none⟩) NI ci)/\W.cell? ⟨b,10,none⟩=some (.map (some mb)) /\
  (W.cell? ⟨ib,io+j*7,none⟩=some (.int .i64 x.kind)/\W.cell? ⟨ib,io+j*7+1,none⟩=some (.int .i64 u)/\W.cell? ⟨ib,io+j*7+2,none⟩=some (.int .i64 x.mult)/\W.cell? ⟨ib,io+j*7+3,none⟩=some (.int .i64 x.strike)/\W.cell? ⟨ib,io+j*7+4,none⟩=some (.int .i64 x.aN)/\W.cell? ⟨ib,io+j*7+5,none⟩=some (.bool x.call)/\W.cell? ⟨ib,io+j*7+6,none⟩=some (.int .i64 x.mark)) /\
  (W.cell? ⟨ub,uo+u*4,none⟩=some (.string y.name)/\W.cell? ⟨ub,uo+u*4+1,none⟩=some (.int .i64 y.cur)/\W.cell? ⟨ub,uo+u*4+2,none⟩=some (.int .i64 y.price)/\W.cell? ⟨ub,uo+u*4+3,none⟩=some (.int .i64 y.cZ)) from by
  intro W hW;rw[hNI,hNU];have r3:=hW.led.af;have r2:=hW.led.ah;have bx:=hW.box;rw[e3] at r3 bx;rw[e2] at r2 bx;obtain⟨_,_,e,_,ic⟩:=r3.at_ hx
  cases e
  obtain⟨_,_,e,_,uc⟩:=r2.at_ hy
  cases e
  exact⟨bx.at_ 0 _ rfl,bx.at_ 2 _ rfl,bx.at_ 3 _ rfl,bx.at_ 10 _ rfl,⟨ic 0 _ rfl,by rw[<-hu];exact ic 1 _ rfl,ic 2 _ rfl,ic 3 _ rfl,ic 4 _ rfl,ic 5 _ rfl,ic 6 _ rfl⟩,uc 0 _ rfl,uc 1 _ rfl,uc 2 _ rfl,uc 3 _ rfl⟩)
 have BD:=zq (show (j:Int)<NI/\(u:Int)<NU from by have:=HJ.o;omega);have HU:=zq hu;have HX:=zq hx;have HY:=zq hy;clear e3 e2 hx hy hu hNI hNU hul;obtain⟨d0,d2,d3,d10,⟨i0,i1,i2,i3,i4,i5,i6⟩,_⟩:=CELLS.o W1 T1.o.1.s;have jN:=BD.o.1
 go_upto_region 4 with (fail)
 obtain⟨W2,hW2⟩:=Zn (W1.alloc (.cells #[.int .i64 x.kind,.int .i64 (u:Int),.int .i64 x.mult,.int .i64 x.strike,.int .i64 x.aN,.bool x.call,.int .i64 x.mark] 66));obtain⟨b9,hb9⟩:=Zn W1.heap.size;have T2:=zq (show Turn w W2 b mb bv V L a/\W2.heap[b7]?=some (.cells (bI f0) 191 (0,0))/\w.heap.size<=b7/\b7<W2.heap.size/\jq W2 Tryz.prog 3 mb L.af.length (kz L) j/\aY W2 b9 #[.int .i64 x.kind,.int .i64 (u:Int),.int .i64 x.mult,.int .i64 x.strike,.int .i64 x.aN,.bool x.call,.int .i64 x.mark] from by
  rw[hW2,hb9];have M:=(Mod.refl (fun _=>False) W1).alloc (.cells #[.int .i64 x.kind,.int .i64 (u:Int),.int .i64 x.mult,.int .i64 x.strike,.int .i64 x.aN,.bool x.call,.int .i64 x.mark] 66);exact⟨T1.o.1.low (Zb),M.heap T1.o.2.1 (fun h=>h),T1.o.2.2.1,by have:=T1.o.2.2.2.1;simp;omega,T1.o.2.2.2.2.mod M (fun h=>h),aY.new _ _ _⟩)
 rw[<-hW2,<-hb9];clear hW2 hb9 d0 d2 d3 d10 i0 i1 i2 i3 i4 i5 i6;have UC:=zq (show ∀ W:World,rF W->Calls Tryz.prog 210 #[.agg #[.int .i64 x.kind,.int .i64 (u:Int),.int .i64 x.mult,.int .i64 x.strike,.int .i64 x.aN,.bool x.call,.int .i64 x.mark],.agg #[.string y.name,.int .i64 y.cur,.int .i64 y.price,.int .i64 y.cZ],.int .i64 L.day] W fun e w'=>e=.returned (.tuple #[.agg (bI f),.int .i64 0])/\Below W.heap.size W w' from by
  intro W hW;have h1:=HG.o.things.af x (List.mem_of_getElem? HX.o);have h2:=HG.o.things.ah u y HY.o;have:=KE x y _ _ h1 h2 L.day HG.o.d0 HG.o.d1 W hW;rw[HU.o] at this;rw[EF.o];have e:(fun s=>L.unit (j:Int) s)=(fun s=>(o9 x y L.day s).1):=by
   funext s;unfold aH.unit;rw[EX.o,HU.o,EY.o]
  rw[e];exact this)
 clear EF;have CL:=zq (show ∀ z:dh (fun W=>Below W2.heap.size W2 W),dO z.w b mb bv V L a/\aY z.w b9 #[.int .i64 x.kind,.int .i64 (u:Int),.int .i64 x.mult,.int .i64 x.strike,.int .i64 x.aN,.bool x.call,.int .i64 x.mark] from fun z=>⟨(T2.o.1.low z.ok).s,T2.o.2.2.2.2.2.below z.ok⟩);have d0:∀ z:dh (fun W=>Below W2.heap.size W2 W),z.w.cell? ⟨b,0,none⟩=some (.int .i64 L.day):=fun z=>(CELLS.o z.w (CL.o z).1).1
 have d2:∀ z:dh (fun W=>Below W2.heap.size W2 W),z.w.cell? ⟨b,2,none⟩=some (.slice (some ⟨ub,uo,none⟩) NU cu):=fun z=>(CELLS.o z.w (CL.o z).1).2.1
 have q0:∀ z:dh (fun W=>Below W2.heap.size W2 W),z.w.cell? ⟨ub,uo+u*4,none⟩=some (.string y.name):=fun z=>(CELLS.o z.w (CL.o z).1).2.2.2.2.2.1
 have q1:∀ z:dh (fun W=>Below W2.heap.size W2 W),z.w.cell? ⟨ub,uo+u*4+1,none⟩=some (.int .i64 y.cur):=fun z=>(CELLS.o z.w (CL.o z).1).2.2.2.2.2.2.1
 have q2:∀ z:dh (fun W=>Below W2.heap.size W2 W),z.w.cell? ⟨ub,uo+u*4+2,none⟩=some (.int .i64 y.price):=fun z=>(CELLS.o z.w (CL.o z).1).2.2.2.2.2.2.2.1
 have q3:∀ z:dh (fun W=>Below W2.heap.size W2 W),z.w.cell? ⟨ub,uo+u*4+3,none⟩=some (.int .i64 y.cZ):=fun z=>(CELLS.o z.w (CL.o z).1).2.2.2.2.2.2.2.2
 have r0:∀ z:dh (fun W=>Below W2.heap.size W2 W),z.w.cell? ⟨b9,0,none⟩=some (.int .i64 x.kind):=fun z=>(CL.o z).2.at_ 0 _ rfl
 have r1:∀ z:dh (fun W=>Below W2.heap.size W2 W),z.w.cell? ⟨b9,1,none⟩=some (.int .i64 (u:Int)):=fun z=>(CL.o z).2.at_ 1 _ rfl
 have r2:∀ z:dh (fun W=>Below W2.heap.size W2 W),z.w.cell? ⟨b9,2,none⟩=some (.int .i64 x.mult):=fun z=>(CL.o z).2.at_ 2 _ rfl
 have r3:∀ z:dh (fun W=>Below W2.heap.size W2 W),z.w.cell? ⟨b9,3,none⟩=some (.int .i64 x.strike):=fun z=>(CL.o z).2.at_ 3 _ rfl
 have r4:∀ z:dh (fun W=>Below W2.heap.size W2 W),z.w.cell? ⟨b9,4,none⟩=some (.int .i64 x.aN):=fun z=>(CL.o z).2.at_ 4 _ rfl
 have r5:∀ z:dh (fun W=>Below W2.heap.size W2 W),z.w.cell? ⟨b9,5,none⟩=some (.bool x.call):=fun z=>(CL.o z).2.at_ 5 _ rfl
 have r6:∀ z:dh (fun W=>Below W2.heap.size W2 W),z.w.cell? ⟨b9,6,none⟩=some (.int .i64 x.mark):=fun z=>(CL.o z).2.at_ 6 _ rfl
 have uN:=BD.o.2;have u0:(0:Int)<=(u:Int):=by omega
 refine aX (C:=fun w'=>∃ z:dh (fun W=>Below W2.heap.size W2 W),w'=z.w) [15,19,20] [0,1,2,3,4,5,6,7,8,9,10,11,12,13,14,16,17,18] (.step 0 (.step 1 (.step 2 (.step 3 (.step 4 (.step 5 (.step 6 (.step 7 (.step 8 (.step 9 (.step 10 (.step 11 (.step 12 (.step 13 (.step 14 (.fork 15 (.step 16 (.step 17 (.step 18 (.step 19 (.step 20 (.step 21 .leaf)))))) 19 (.step 15 (.step 16 (.step 17 (.step 18 (.step 20 (.step 21 .leaf)))))))))))))))))))))) (fun _ _ _=>False) (by kernel_rfl) (fun _ _ _ h=>h.elim) (by kernel_rfl) ⟨⟨W2.drew,((Mod.refl (fun _=>False) W2).drew).aU⟩,rfl⟩ ?_
 haveI ne:Nonempty (dh (fun W=>Below W2.heap.size W2 W)):=⟨⟨W2,Below.refl _ _⟩⟩
 refine bM [0,1,2,3,4,5,6,7,8,9,10,11,12,13,14] (by kernel_rfl) ?_
 simp only[ay,nth]
 repeat (go_big_quiet_step (fail))
 refine wpQuiet_nil ?_;refine lQ ?_ ?_
 ·refine aK (by kernel_rfl) rfl (fun K hK=>?_)
  simp only[ay,nth]
  refine aA ?_;go_simp;refine (UC.o _ (T2.o.1.low ((Mod.refl (fun _=>False) W2).drew).aU).s.Q7).mono ?_;rintro e w3 ⟨rfl,hb⟩;have B3:=zq (show Below W2.heap.size W2 w3 from ((Mod.refl (fun _=>False) W2).drew.trans (T:=fun _=>False) (Mod.of_below hb) (fun _ _ h=>h.elim)).aU);clear hb;go_simp;refine hK _ _ ⟨⟨w3,B3.o⟩,rfl⟩ ?_;clear hK;refine bM [16,17,18] (by kernel_rfl) ?_
  simp only[ay,nth]
  repeat (go_big_quiet_step (fail))
  refine wpQuiet_nil ?_;refine aK (by kernel_rfl) rfl (fun K hK=>?_)
  simp only[ay,nth]
  refine aA ?_;go_simp;refine hK _ _ ⟨⟨_,B3.o.alloc B3.o.size _⟩,rfl⟩ ?_;clear hK;refine aK (by kernel_rfl) rfl (fun K hK=>?_)
  simp only[ay,nth]
  refine aA ?_;refine wp_store_row 191 (.tmp 10) (.tmp 48) rfl w3.heap.size (bI f) rfl rfl 191 _ (heap_alloc_last _ _) (ou f).o (by rw[fA];rfl) (fM f) ?_;rw[World.setRow_alloc_new];go_simp;refine hK _ _ ⟨⟨_,B3.o.alloc B3.o.size _⟩,rfl⟩ ?_;clear hK;refine aC [21] (by kernel_rfl) ?_
  simp only[ay,nth]
  repeat (go_big_quiet_step (fail))
  refine wpQuiet_nil ?_;refine bH ?_;clear d0 d2 q0 q1 q2 q3 r0 r1 r2 r3 r4 r5 r6;obtain⟨W3,hW3⟩:=Zn (w3.alloc (.cells (bI f) 191));obtain⟨b10,hb10⟩:=Zn w3.heap.size;have T3:=zq (show Turn w W3 b mb bv V L a/\W3.heap[b7]?=some (.cells (bI f0) 191 (0,0))/\w.heap.size<=b7/\b7<b10/\jq W3 Tryz.prog 3 mb L.af.length (kz L) j/\W3.heap[b10]?=some (.cells (bI f) 191 (0,0)) from by
   rw[hW3,hb10];have B4:=B3.o.alloc B3.o.size (.cells (bI f) 191);exact⟨T2.o.1.low B4,(Mod.of_below B4).heap T2.o.2.1 (fun h=>h),T2.o.2.2.1,Nat.lt_of_lt_of_le T2.o.2.2.2.1 B3.o.size,T2.o.2.2.2.2.1.mod (Mod.of_below B4) (fun h=>h),heap_alloc_last _ _⟩)
  rw[<-hW3,<-hb10];clear hW3 hb10 B3
  go_wp2_with fail
  refine (tK 0 _).mono ?_;rintro e w' ⟨rfl,rfl⟩
  go_upto_region 6 with (fail)
  have NB:=zq (show mb<w.heap.size from HS.o.units.lt);have C10:=zq (show W3.cell? ⟨b,10,none⟩=some (.map (some mb)) from (CELLS.o W3 T3.o.1.s).2.2.2.1);refine aX (C:=fun w'=>∃ z:dh (fun W=>W.heap[b10]?=some (.cells (bI f) 191 (0,0))/\W.cell? ⟨b,10,none⟩=some (.map (some mb))),w'=z.w) [7,8,10] [0,1,2,3,4,6] (.step 0 (.step 1 (.step 2 (.step 3 (.step 4 (.step 5 (.step 6 (.step 7 (.step 8 (.step 9 (.step 10 .leaf))))))))))) (fun _ _ _=>False) (by kernel_rfl) (fun _ _ _ h=>h.elim) (by kernel_rfl) ⟨⟨W3.drew,T3.o.2.2.2.2.2,C10.o⟩,rfl⟩ ?_
  haveI ne2:Nonempty (dh (fun W=>W.heap[b10]?=some (.cells (bI f) 191 (0,0))/\W.cell? ⟨b,10,none⟩=some (.map (some mb)))):=⟨⟨W3,T3.o.2.2.2.2.2,C10.o⟩⟩
  have c10:∀ z:dh (fun W=>W.heap[b10]?=some (.cells (bI f) 191 (0,0))/\W.cell? ⟨b,10,none⟩=some (.map (some mb))),z.w.cell? ⟨b,10,none⟩=some (.map (some mb)):=fun z=>z.ok.2
  refine bM [0,1,2,3,4] (by kernel_rfl) ?_
  simp only[ay,nth]
  repeat (go_big_quiet_step (fail))
  refine wpQuiet_nil ?_;refine aC [5] (by kernel_rfl) ?_
  simp only[ay,nth]
  refine iW rfl 191 (.tmp 10) rfl b10 rfl 191 (bI f) (0,0) _ (fun w hw=>by rw[hw];exact T3.o.2.2.2.2.2) yj.o rfl (ou f).o ?_;refine wpQuiet_nil ?_;go_simp;refine bM [6] (by kernel_rfl) ?_
  simp only[ay,nth]
  refine iW rfl 191 (.tmp 10) rfl b10 rfl 191 (bI f) (0,0) _ (fun w hw=>by obtain⟨z,rfl⟩:=hw;exact z.ok.1) yj.o rfl (ou f).o ?_;refine wpQuiet_nil ?_;go_simp;refine aK (by kernel_rfl) rfl (fun K hK=>?_)
  simp only[ay,nth]
  refine aA ?_;refine wp_store_row 191 (.tmp 7) (.tmp 57) rfl b7 (bI f) rfl rfl 191 _ (show W3.drew.heap[b7]?=some (.cells (bI f0) 191 (0,0)) from T3.o.2.1) (ou f).o (by rw[fA,fA]) (fM f) ?_;obtain⟨W4,hW4⟩:=Zn ((W3.drew).setRow b7 (bI f));have M4:=zq (show Mod (fun k=>k=mb) w W4/\Mod (fun k=>k=b7) W3 W4/\W4.heap[b7]?=some (.cells (bI f) 191 (0,0)) from by
   rw[hW4];have m1:=((Mod.refl (fun k=>k=b7) W3).drew).trans (Mod.setRow b7 (bI f)) (fun _ _ h=>h);exact⟨T3.o.1.m.trans m1 (fun k hk h=>by have:=T3.o.2.2.1;omega),m1,setRow_heap _ _ _ _ _ _ (show W3.drew.heap[b7]?=_ from T3.o.2.1)⟩)
  rw[<-hW4];clear hW4;go_simp;refine hK _ _ ⟨⟨W4,M4.o.2.1.heap T3.o.2.2.2.2.2 (by have:=T3.o.2.2.2.1;omega),M4.o.2.1.cell C10.o (by have:=T3.o.2.2.1;have:=HS.o.box.lt;show ¬ b=b7;omega)⟩,rfl⟩ ?_;clear hK;obtain⟨ev,st,W5,hrun,me,hole⟩:=(T3.o.2.2.2.2.1.mod M4.o.2.1 (by have:=T3.o.2.2.1;have:=NB.o;omega)).enter Py QE QJ HJ.o (by have:=HG.o.things.i1;omega);have M5:=zq (show Mod (fun k=>k=mb) w W5/\Mod (fun k=>k=mb) W4 W5 from ⟨M4.o.1.trans me (fun _ _ h=>h),me⟩);have HO:=zq hole;clear me hole;refine aK (by kernel_rfl) rfl (fun K hK=>?_)
  simp only[ay,nth]
  refine aA ?_;go_simp;refine hK _ _ ⟨⟨W5,M5.o.2.heap (M4.o.2.1.heap T3.o.2.2.2.2.2 (by have:=T3.o.2.2.2.1;omega)) (by have:=T3.o.2.2.2.1;have:=T3.o.2.2.1;have:=NB.o;omega),M5.o.2.cell (M4.o.2.1.cell C10.o (by have:=T3.o.2.2.1;have:=HS.o.box.lt;show ¬ b=b7;omega)) (fun e=>by have h1:=HS.o.units.blind 10;have h2:=HS.o.box.at_ 10 _ rfl;rw[show b=mb from e,h1] at h2;cases h2)⟩,rfl⟩ ?_;clear hK hrun;refine aC [9] (by kernel_rfl) ?_
  simp only[ay,nth]
  repeat (go_big_quiet_step (fail))
  refine wpQuiet_nil ?_;obtain⟨es,clk,hb0,hst⟩:=HO.o;obtain⟨W6,hrun,hu6,m6⟩:=hst W5 hb0;rw[UJ.o] at hrun
  simp only[goInt] at hrun
  have M6:=zq (show Mod (fun k=>k=mb) w W6/\Mod (fun k=>k=mb) W5 W6 from ⟨M5.o.1.trans m6 (fun _ _ h=>h),m6⟩);have U6:=zq hu6;clear hst hb0 m6 hu6;refine aK (by kernel_rfl) rfl (fun K hK=>?_)
  simp only[ay,nth]
  refine aA ?_;go_simp;refine hK _ _ ⟨⟨W6,M6.o.2.heap (M5.o.2.heap (M4.o.2.1.heap T3.o.2.2.2.2.2 (by have:=T3.o.2.2.2.1;omega)) (by have:=T3.o.2.2.2.1;have:=T3.o.2.2.1;have:=NB.o;omega)) (by have:=T3.o.2.2.2.1;have:=T3.o.2.2.1;have:=NB.o;omega),M6.o.2.cell (M5.o.2.cell (M4.o.2.1.cell C10.o (by have:=T3.o.2.2.1;have:=HS.o.box.lt;show ¬ b=b7;omega)) (fun e=>by have h1:=HS.o.units.blind 10;have h2:=HS.o.box.at_ 10 _ rfl;rw[show b=mb from e,h1] at h2;cases h2)) (fun e=>by have h1:=HS.o.units.blind 10;have h2:=HS.o.box.at_ 10 _ rfl;rw[show b=mb from e,h1] at h2;cases h2)⟩,rfl⟩ ?_;clear hK hrun;refine bH ?_;have c7:W6.cell? ⟨b7,s,none⟩=some (.int .i64 (f s)):=by
   have h7:=M6.o.2.heap (M5.o.2.heap M4.o.2.2 (by have:=T3.o.2.2.1;have:=NB.o;omega)) (by have:=T3.o.2.2.1;have:=NB.o;omega);rw[cell_of_heap h7];exact kG f S21.o
  clear c10
  go_wp2_with fail
  go_ret;exact⟨rfl,HS.o.turn M6.o.1 U6.o,M6.o.1⟩
 refine aK (by kernel_rfl) rfl (fun K hK=>?_)
 simp only[ay,nth]
 refine aA ?_;go_simp;refine hK _ _ ⟨⟨_,(((Mod.refl (fun _=>False) W2).alloc _).drew).aU⟩,rfl⟩ ?_;clear hK;obtain⟨WA,hWA⟩:=Zn ((W2.alloc (.cells (Array.replicate 21 (.int .i64 0)) 191)).drew);have BA:=zq (show Below W2.heap.size W2 WA/\WA.heap[W2.heap.size]?=some (.cells (Array.replicate 21 (.int .i64 0)) 191 (0,0))/\W2.heap.size<WA.heap.size from by rw[hWA];exact⟨(((Mod.refl (fun _=>False) W2).alloc _).drew).aU,heap_alloc_last W2 _,by show W2.heap.size<(W2.heap.push _).size;simp⟩)
 simp only[show Array.replicate 21 (Value.int .i64 0)=#[.int .i64 0,.int .i64 0,.int .i64 0,.int .i64 0,.int .i64 0,.int .i64 0,.int .i64 0,.int .i64 0,.int .i64 0,.int .i64 0,.int .i64 0,.int .i64 0,.int .i64 0,.int .i64 0,.int .i64 0,.int .i64 0,.int .i64 0,.int .i64 0,.int .i64 0,.int .i64 0,.int .i64 0] from rfl] at hWA
 rw[<-hWA];clear hWA;refine aK (by kernel_rfl) rfl (fun K hK=>?_)
 simp only[ay,nth]
 refine aA ?_;go_simp;refine (UC.o _ (T2.o.1.low BA.o.1).s.Q7).mono ?_;rintro e w3 ⟨rfl,hb⟩;have B3:=zq (show Below W2.heap.size W2 w3/\w3.heap[W2.heap.size]?=some (.cells (Array.replicate 21 (.int .i64 0)) 191 (0,0)) from ⟨BA.o.1.trans (hb.mono (by have:=BA.o.2.2;omega)),(Mod.of_below hb).heap BA.o.2.1 (fun h=>h)⟩);clear hb;go_simp;refine hK _ _ ⟨⟨w3,B3.o.1⟩,rfl⟩ ?_;clear hK;refine bM [16,17,18] (by kernel_rfl) ?_
 simp only[ay,nth]
 repeat (go_big_quiet_step (fail))
 refine wpQuiet_nil ?_;refine aK (by kernel_rfl) rfl (fun K hK=>?_)
 simp only[ay,nth]
 refine aA ?_;refine wp_store_row 191 (.tmp 10) (.tmp 48) rfl W2.heap.size (bI f) rfl rfl 191 _ B3.o.2 (ou f).o (by rw[fA];simp) (fM f) ?_;go_simp;refine hK _ _ ⟨⟨_,below_setRow B3.o.1 (Nat.le_refl _) _⟩,rfl⟩ ?_;clear hK;refine aC [21] (by kernel_rfl) ?_
 simp only[ay,nth]
 repeat (go_big_quiet_step (fail))
 refine wpQuiet_nil ?_;refine bH ?_;clear d0 d2 q0 q1 q2 q3 r0 r1 r2 r3 r4 r5 r6;obtain⟨W3,hW3⟩:=Zn (w3.setRow W2.heap.size (bI f));obtain⟨b10,hb10⟩:=Zn W2.heap.size;have T3:=zq (show Turn w W3 b mb bv V L a/\W3.heap[b7]?=some (.cells (bI f0) 191 (0,0))/\w.heap.size<=b7/\b7<b10/\jq W3 Tryz.prog 3 mb L.af.length (kz L) j/\W3.heap[b10]?=some (.cells (bI f) 191 (0,0)) from by
  rw[hW3,hb10];have B4:=below_setRow B3.o.1 (Nat.le_refl _) (bI f);exact⟨T2.o.1.low B4,(Mod.of_below B4).heap T2.o.2.1 (fun h=>h),T2.o.2.2.1,T2.o.2.2.2.1,T2.o.2.2.2.2.1.mod (Mod.of_below B4) (fun h=>h),setRow_heap _ _ _ _ _ _ B3.o.2⟩)
 rw[<-hW3,<-hb10];clear hW3 hb10 B3 BA
 go_wp2_with fail
 refine (tK 0 _).mono ?_;rintro e w' ⟨rfl,rfl⟩
 go_upto_region 6 with (fail)
 have NB:=zq (show mb<w.heap.size from HS.o.units.lt);have C10:=zq (show W3.cell? ⟨b,10,none⟩=some (.map (some mb)) from (CELLS.o W3 T3.o.1.s).2.2.2.1);refine aX (C:=fun w'=>∃ z:dh (fun W=>W.heap[b10]?=some (.cells (bI f) 191 (0,0))/\W.cell? ⟨b,10,none⟩=some (.map (some mb))),w'=z.w) [7,8,10] [0,1,2,3,4,6] (.step 0 (.step 1 (.step 2 (.step 3 (.step 4 (.step 5 (.step 6 (.step 7 (.step 8 (.step 9 (.step 10 .leaf))))))))))) (fun _ _ _=>False) (by kernel_rfl) (fun _ _ _ h=>h.elim) (by kernel_rfl) ⟨⟨W3.drew,T3.o.2.2.2.2.2,C10.o⟩,rfl⟩ ?_
 haveI ne2:Nonempty (dh (fun W=>W.heap[b10]?=some (.cells (bI f) 191 (0,0))/\W.cell? ⟨b,10,none⟩=some (.map (some mb)))):=⟨⟨W3,T3.o.2.2.2.2.2,C10.o⟩⟩
 have c10:∀ z:dh (fun W=>W.heap[b10]?=some (.cells (bI f) 191 (0,0))/\W.cell? ⟨b,10,none⟩=some (.map (some mb))),z.w.cell? ⟨b,10,none⟩=some (.map (some mb)):=fun z=>z.ok.2
 refine bM [0,1,2,3,4] (by kernel_rfl) ?_
 simp only[ay,nth]
 repeat (go_big_quiet_step (fail))
 refine wpQuiet_nil ?_;refine aC [5] (by kernel_rfl) ?_
 simp only[ay,nth]
 refine iW rfl 191 (.tmp 10) rfl b10 rfl 191 (bI f) (0,0) _ (fun w hw=>by rw[hw];exact T3.o.2.2.2.2.2) yj.o rfl (ou f).o ?_;refine wpQuiet_nil ?_;go_simp;refine bM [6] (by kernel_rfl) ?_
 simp only[ay,nth]
 refine iW rfl 191 (.tmp 10) rfl b10 rfl 191 (bI f) (0,0) _ (fun w hw=>by obtain⟨z,rfl⟩:=hw;exact z.ok.1) yj.o rfl (ou f).o ?_;refine wpQuiet_nil ?_;go_simp;refine aK (by kernel_rfl) rfl (fun K hK=>?_)
 simp only[ay,nth]
 refine aA ?_;refine wp_store_row 191 (.tmp 7) (.tmp 57) rfl b7 (bI f) rfl rfl 191 _ (show W3.drew.heap[b7]?=some (.cells (bI f0) 191 (0,0)) from T3.o.2.1) (ou f).o (by rw[fA,fA]) (fM f) ?_;obtain⟨W4,hW4⟩:=Zn ((W3.drew).setRow b7 (bI f));have M4:=zq (show Mod (fun k=>k=mb) w W4/\Mod (fun k=>k=b7) W3 W4/\W4.heap[b7]?=some (.cells (bI f) 191 (0,0)) from by
  rw[hW4];have m1:=((Mod.refl (fun k=>k=b7) W3).drew).trans (Mod.setRow b7 (bI f)) (fun _ _ h=>h);exact⟨T3.o.1.m.trans m1 (fun k hk h=>by have:=T3.o.2.2.1;omega),m1,setRow_heap _ _ _ _ _ _ (show W3.drew.heap[b7]?=_ from T3.o.2.1)⟩)
 rw[<-hW4];clear hW4;go_simp;refine hK _ _ ⟨⟨W4,M4.o.2.1.heap T3.o.2.2.2.2.2 (by have:=T3.o.2.2.2.1;omega),M4.o.2.1.cell C10.o (by have:=T3.o.2.2.1;have:=HS.o.box.lt;show ¬ b=b7;omega)⟩,rfl⟩ ?_;clear hK;obtain⟨ev,st,W5,hrun,me,hole⟩:=(T3.o.2.2.2.2.1.mod M4.o.2.1 (by have:=T3.o.2.2.1;have:=NB.o;omega)).enter Py QE QJ HJ.o (by have:=HG.o.things.i1;omega);have M5:=zq (show Mod (fun k=>k=mb) w W5/\Mod (fun k=>k=mb) W4 W5 from ⟨M4.o.1.trans me (fun _ _ h=>h),me⟩);have HO:=zq hole;clear me hole;refine aK (by kernel_rfl) rfl (fun K hK=>?_)
 simp only[ay,nth]
 refine aA ?_;go_simp;refine hK _ _ ⟨⟨W5,M5.o.2.heap (M4.o.2.1.heap T3.o.2.2.2.2.2 (by have:=T3.o.2.2.2.1;omega)) (by have:=T3.o.2.2.2.1;have:=T3.o.2.2.1;have:=NB.o;omega),M5.o.2.cell (M4.o.2.1.cell C10.o (by have:=T3.o.2.2.1;have:=HS.o.box.lt;show ¬ b=b7;omega)) (fun e=>by have h1:=HS.o.units.blind 10;have h2:=HS.o.box.at_ 10 _ rfl;rw[show b=mb from e,h1] at h2;cases h2)⟩,rfl⟩ ?_;clear hK hrun;refine aC [9] (by kernel_rfl) ?_
 simp only[ay,nth]
 repeat (go_big_quiet_step (fail))
 refine wpQuiet_nil ?_;obtain⟨es,clk,hb0,hst⟩:=HO.o;obtain⟨W6,hrun,hu6,m6⟩:=hst W5 hb0;rw[UJ.o] at hrun
 simp only[goInt] at hrun
 have M6:=zq (show Mod (fun k=>k=mb) w W6/\Mod (fun k=>k=mb) W5 W6 from ⟨M5.o.1.trans m6 (fun _ _ h=>h),m6⟩);have U6:=zq hu6;clear hst hb0 m6 hu6;refine aK (by kernel_rfl) rfl (fun K hK=>?_)
 simp only[ay,nth]
 refine aA ?_;go_simp;refine hK _ _ ⟨⟨W6,M6.o.2.heap (M5.o.2.heap (M4.o.2.1.heap T3.o.2.2.2.2.2 (by have:=T3.o.2.2.2.1;omega)) (by have:=T3.o.2.2.2.1;have:=T3.o.2.2.1;have:=NB.o;omega)) (by have:=T3.o.2.2.2.1;have:=T3.o.2.2.1;have:=NB.o;omega),M6.o.2.cell (M5.o.2.cell (M4.o.2.1.cell C10.o (by have:=T3.o.2.2.1;have:=HS.o.box.lt;show ¬ b=b7;omega)) (fun e=>by have h1:=HS.o.units.blind 10;have h2:=HS.o.box.at_ 10 _ rfl;rw[show b=mb from e,h1] at h2;cases h2)) (fun e=>by have h1:=HS.o.units.blind 10;have h2:=HS.o.box.at_ 10 _ rfl;rw[show b=mb from e,h1] at h2;cases h2)⟩,rfl⟩ ?_;clear hK hrun;refine bH ?_;have c7:W6.cell? ⟨b7,s,none⟩=some (.int .i64 (f s)):=by
  have h7:=M6.o.2.heap (M5.o.2.heap M4.o.2.2 (by have:=T3.o.2.2.1;have:=NB.o;omega)) (by have:=T3.o.2.2.1;have:=NB.o;omega);rw[cell_of_heap h7];exact kG f S21.o
 clear c10
 go_wp2_with fail
 go_ret;exact⟨rfl,HS.o.turn M6.o.1 U6.o,M6.o.1⟩
theorem Rh {q m d:Int} (hq:aO q=true) (hm:aO m=true) (hqm:aO (q*m)=true):jZ [q,m,d] 1=fG (q*m) d:=by
 have e1:fG 1 q=(q,0):=by rw[lF,Int.one_mul,if_pos ⟨by decide,hq,hq⟩]
 have e2:fG q m=(q*m,0):=by rw[lF,if_pos ⟨hq,hm,hqm⟩]
 unfold jZ;rw[e1,if_neg (by simp)];unfold jZ;rw[e2,if_neg (by simp)];unfold jZ;rcases jW (q*m) d with h|h
 ·rw[if_neg (by rw[h.1];simp)]
  show ((fG (q*m) d).1,(0:Int))=_
  rw[<-h.1]
 rw[h,if_pos (by decide)]
theorem Df (w:World) (b mb:Nat) (bv:Value) (V:aB) (L:aH) (a:Nat) (hS:dO w b mb bv V L a) (j:Nat) (hj:j<L.af.length) (hi:L.af.length<=12) (under:Int) :
 Calls Tryz.prog 201 #[.pointer (some ⟨b,0,none⟩),.int .i64 (j:Int),.int .i64 under] w fun e w'=>e=.returned (.bool (decide ((L.ins j).under=under)))/\w=w':=by
 obtain⟨a3,ci,e3⟩:=hS.led.af.form;obtain⟨x,hx⟩:∃ x,L.af[j]?=some x:=⟨_,List.getElem?_eq_getElem hj⟩;have EX:=zq (show L.ins (j:Int)=x from by unfold aH.ins;simp[hx]);rw[EX.o];obtain⟨ib,io,rfl,_,ic⟩:=(show RowOf w 7 Ins.cells (.slice a3 L.af.length ci) L.af from by rw[<-e3];exact hS.led.af).at_ hx;have d3:w.cell? ⟨b,3,none⟩=some V.af:=hS.box.at_ 3 _ rfl;rw[e3] at d3;have i1:w.cell? ⟨ib,io+j*7+1,none⟩=some (.int .i64 x.under):=ic 1 _ rfl;have j0:(0:Int)<=(j:Int):=by omega
 have j1:(j:Int)<L.af.length:=by omega
 obtain⟨NI,hNI⟩:=Zn L.af.length;rw[<-hNI] at j1 d3;clear hx e3 ic hNI hj hS
 go_enter Tryz.func201,Tryz.ntmps201
 go_wp2_with fail
 go_ret;refine⟨aj ?_,rfl⟩
 first|rfl|simp
theorem Gl (w:World) (x y z:Int):Reads (w.alloc (.cells #[.int .i64 x,.int .i64 y,.int .i64 z] 3)) 1 (.slice (some ⟨w.heap.size,0,none⟩) 3 3) [x,y,z].length (dR [x,y,z]):=by
 have h:=heap_alloc_new w (.cells #[.int .i64 x,.int .i64 y,.int .i64 z] 3);refine⟨rfl,Or.inr ⟨_,3,rfl,fun j u hj=>?_⟩⟩;rw[add_plain,Nat.zero_add,cell_of_heap h,show (#[Value.int .i64 x,.int .i64 y,.int .i64 z]:Array Value)[j]?=(dR [x,y,z])[j]? from by simp[dR]];exact hj
def lq (w:World) (b mb:Nat) (bv:Value) (V:aB) (L:aH) (a:Nat) (o:Option Int) (e:Ending) (w':World):Prop:=jL o e/\Turn w w' b mb bv V L a
theorem BG (w:World) (b mb:Nat) (bv:Value) (V:aB) (L:aH) (a:Nat) (hS:dO w b mb bv V L a) (hg:L.Good) (j:Nat) (hj:j<L.af.length) (s:Nat) (hs:s<21) (qty frm:Int)
 (q0:-1000000000<=qty) (q1:qty<=1000000000) (f0:0<=frm) (f1:frm<=100000000000000) :
 Calls Tryz.prog 202 #[.pointer (some ⟨b,0,none⟩),.int .i64 (j:Int),.int .i64 qty,.int .i64 (s:Int),.int .i64 frm] w (lq w b mb bv V L a (jI L j qty s frm)):=by
 have HS:=zq hS;obtain⟨a3,ci,e3⟩:=hS.led.af.form;obtain⟨x,hx⟩:∃ x,L.af[j]?=some x:=⟨_,List.getElem?_eq_getElem hj⟩;have EX:=zq (show L.ins (j:Int)=x from by unfold aH.ins;simp[hx]);have hok:=hg.things.af x (List.mem_of_getElem? hx);have uk:=(hg.IW (n:=(j:Int)) (by omega) (by omega) s).2;obtain⟨U,hU⟩:=Zn (L.unit j s);rw[<-hU] at uk;have GO:=zq (show jI L j qty s frm=iG (fG (qty*x.mult) (U - frm)) from by unfold jI Ns;rw[EX.o,hU]);rw[GO.o];have m0:=hok.2.2.1;have m1:=hok.2.2.2.1;have qm:-1000000000000000<=qty*x.mult/\qty*x.mult<=1000000000000000:=by
  constructor
  ·have:=Int.mul_le_mul_of_nonneg_right q0 (show 0<=x.mult by omega);have:=Int.mul_le_mul_of_nonneg_left m1 (show (0:Int)<=1000000000 by omega);omega
  have:=Int.mul_le_mul_of_nonneg_right q1 (show 0<=x.mult by omega);omega
 have SU:=zq (show ∀ W,Calls Tryz.prog 71 #[.int .i64 U,.int .i64 frm] W fun e w'=>e=.returned (.tuple #[.int .i64 (U - frm),.int .i64 0])/\W=w' from fun W=>by
  have h:=nP U frm (I64.bU (aF.2 (by omega))) (I64.bU (aF.2 (by omega))) W;rw[show fK U frm=(U - frm,0) from by unfold fK;rw[if_pos ⟨aF.2 (by omega),aF.2 (by omega),aF.2 (by omega)⟩]] at h;exact h)
 have PR:=zq (show jZ [qty,x.mult,U - frm] 1=fG (qty*x.mult) (U - frm) from Rh (aF.2 (by omega)) (aF.2 (by omega)) (aF.2 (by omega)));have I3:=zq (show ∀ y∈[qty,x.mult,U - frm],I64 y from by
  intro y hy
  simp only[List.mem_cons,List.not_mem_nil,or_false] at hy
  rcases hy with rfl|rfl|rfl
  ·exact I64.bU (aF.2 (by omega))
  ·exact I64.bU (aF.2 (by omega))
  exact I64.bU (aF.2 (by omega)))
 obtain⟨D,hD⟩:=Zn (U - frm);rw[<-hD] at SU PR I3 ⊢;have ME:=zq (show (fG (qty*x.mult) D).2=0\/fG (qty*x.mult) D=(0,4) from by rcases jW (qty*x.mult) D with h|h;exact Or.inl h.1;exact Or.inr h);obtain⟨MR,hMR⟩:=Zn (fG (qty*x.mult) D);rw[<-hMR] at PR ME ⊢;have OF:=zq (fun W (hW:dO W b mb bv V L a)=>Qu W b mb bv V L a hW hg j hj s hs);rw[<-hU] at OF;obtain⟨ib,io,rfl,_⟩:=(show RowOf w 7 Ins.cells (.slice a3 L.af.length ci) L.af from by rw[<-e3];exact hS.led.af).at_ hx;obtain⟨NI,hNI⟩:=Zn L.af.length;have CELLS:=zq (show ∀ z:dh (fun W=>dO W b mb bv V L a),z.w.cell? ⟨b,3,none⟩=some (.slice (some ⟨ib,io,none⟩) NI ci)/\z.w.cell? ⟨ib,io+j*7+2,none⟩=some (.int .i64 x.mult) from by
  intro z;have bx:=z.ok.box;have r3:=z.ok.led.af;rw[e3] at bx r3;obtain⟨_,_,e,_,ic⟩:=r3.at_ hx
  cases e
  rw[hNI];exact⟨bx.at_ 3 _ rfl,ic 2 _ rfl⟩)
 have j0:(0:Int)<=(j:Int):=by omega
 have j1:(j:Int)<NI:=by omega
 have d3:=fun z=>(CELLS.o z).1
 have i2:=fun z=>(CELLS.o z).2
 clear hx e3 hNI hj hS hg hD hMR hU uk hok m0 m1 qm q0 q1 f0 f1
 go_enter Tryz.func202,Tryz.ntmps202
 go_wp2_with fail
 refine aX (C:=fun w'=>∃ z:dh (fun W=>dO W b mb bv V L a),w'=z.w) [13,15,18,19,20,23] [0,1,2,3,4,5,6,7,8,9,14] (.step 0 (.step 1 (.step 2 (.step 3 (.step 4 (.step 5 (.step 6 (.step 7 (.step 8 (.step 9 (.step 10 (.step 11 (.step 12 (.step 14 (.step 13 (.step 15 (.step 16 (.step 17 (.step 18 (.step 19 (.step 20 (.step 21 (.step 22 (.step 23 (.step 24 .leaf))))))))))))))))))))))))) (fun c d w'=>d=[]/\lq w b mb bv V L a (iG MR) (.panicked c) w') (by kernel_rfl) (fun c a' w' hR=>hR) (by kernel_rfl) ⟨⟨w.drew,HS.o.low ((Mod.refl (fun _=>False) w).drew).aU⟩,rfl⟩ ?_
 haveI ne:Nonempty (dh (fun W=>dO W b mb bv V L a)):=⟨⟨w,HS.o⟩⟩
 refine bM [0,1,2,3,4,5,6,7,8,9] (by kernel_rfl) ?_
 simp only[ay,nth]
 repeat (go_big_quiet_step (fail))
 refine wpQuiet_nil ?_;refine aC [10,11,12] (by kernel_rfl) ?_
 simp only[ay,nth]
 repeat (go_big_quiet_step (fail))
 refine wpQuiet_nil ?_;refine bM [14] (by kernel_rfl) ?_
 simp only[ay,nth]
 repeat (go_big_quiet_step (fail))
 refine wpQuiet_nil ?_;refine aK (by kernel_rfl) rfl (fun K hK=>?_)
 simp only[ay,nth]
 refine aA ?_;go_simp;refine (OF.o _ (HS.o.low ((Mod.refl (fun _=>False) w).drew).aU)).mono ?_;rintro e w1 ⟨rfl,ht⟩;have T1:=zq (show Turn w w1 b mb bv V L a from (HS.o.here.low ((Mod.refl (fun _=>False) w).drew).aU).trans ht);clear ht;go_simp;refine hK _ _ ⟨⟨w1,T1.o.s⟩,rfl⟩ ?_;clear hK;refine aK (by kernel_rfl) rfl (fun K hK=>?_)
 simp only[ay,nth]
 refine aA ?_;go_simp;refine (SU.o _).mono ?_;rintro e w' ⟨rfl,rfl⟩;go_simp;refine hK _ _ ⟨⟨w1,T1.o.s⟩,rfl⟩ ?_;clear hK;refine aC [16,17] (by kernel_rfl) ?_
 simp only[ay,nth]
 repeat (go_big_quiet_step (fail))
 refine wpQuiet_nil ?_;refine aK (by kernel_rfl) rfl (fun K hK=>?_)
 simp only[ay,nth]
 refine aA ?_;go_simp;refine (tK D _).mono ?_;rintro e w' ⟨rfl,rfl⟩;go_simp;refine hK _ _ ⟨⟨w1,T1.o.s⟩,rfl⟩ ?_;clear hK;refine aK (by kernel_rfl) rfl (fun K hK=>?_)
 simp only[ay,nth]
 refine aA ?_;go_simp;have W2:=zq (show Below w1.heap.size w1 (w1.alloc (.cells #[.int .i64 qty,.int .i64 x.mult,.int .i64 D] 3)) from Zb);have T2:=zq (T1.o.low W2.o);have RD:=zq (show Reads (w1.alloc (.cells #[.int .i64 qty,.int .i64 x.mult,.int .i64 D] 3)) 1 (.slice (some ⟨w1.heap.size,0,none⟩) 3 3) [qty,x.mult,D].length (dR [qty,x.mult,D]) from Gl _ _ _ _);refine hK _ _ ⟨⟨_,T2.o.s⟩,rfl⟩ ?_;clear hK;obtain⟨w2,hw2⟩:=Zn (w1.alloc (.cells #[.int .i64 qty,.int .i64 x.mult,.int .i64 D] 3));rw[<-hw2] at T2 RD ⊢;obtain⟨h2,hh2⟩:=Zn w1.heap.size;rw[<-hh2] at RD ⊢;clear hw2 hh2 W2;have PC:=zq (y9 w2 _ _ RD.o I3.o (by simp));rw[PR.o] at PC;refine aK (by kernel_rfl) rfl (fun K hK=>?_)
 simp only[ay,nth]
 refine aA ?_;go_simp;refine PC.o.mono ?_;rintro e w' ⟨rfl,rfl⟩;go_simp;refine hK _ _ ⟨⟨w2,T2.o.s⟩,rfl⟩ ?_;clear hK;refine aC [21,22] (by kernel_rfl) ?_
 simp only[ay,nth]
 repeat (go_big_quiet_step (fail))
 refine wpQuiet_nil ?_;refine aK (by kernel_rfl) rfl (fun K hK=>?_)
 simp only[ay,nth]
 refine aA ?_;go_simp;refine (jc MR ME.o _).mono ?_;rintro e w' ⟨ho,rfl⟩;rcases ho with ⟨g,hg,rfl⟩|⟨hg,rfl⟩
 ·have GG:=zq hg;clear hg;go_simp;refine hK _ _ ⟨⟨w2,T2.o.s⟩,rfl⟩ ?_;clear hK;refine aC [24] (by kernel_rfl) ?_
  simp only[ay,nth]
  repeat (go_big_quiet_step (fail))
  refine wpQuiet_nil ?_;refine bH ?_
  go_wp2_with fail
  go_ret;exact⟨jL.some_ GG.o,T2.o⟩
 have GG:=zq hg;clear hg;go_simp;exact⟨rfl,jL.none_ GG.o,T2.o⟩
section
variable {L:aH} {a:Nat} {under:Int} {s:Nat}
theorem drop_cons {α:Type} {l:List α} {k:Nat} {x:α} (h:l[k]?=some x):l.drop k=x::l.drop (k+1):=by
 obtain⟨h1,rfl⟩:=List.getElem?_eq_some_iff.1 h;exact List.drop_eq_getElem_cons h1
theorem lD {l:List Pos} {k:Nat} {p:Pos} {x:Int} (h:l[k]?=some p) (hh:L.hit a under p.instr p.ak=false):iw L a under s (l.drop k) x=iw L a under s (l.drop (k+1)) x:=by
 rw[drop_cons h];conv=>lhs;unfold iw
 rw[if_neg (by simp[hh])]
theorem tC {l:List Pos} {k:Nat} {p:Pos} {x:Int} (h:l[k]?=some p) (hh:L.hit a under p.instr p.ak=true) (hg:jI L p.instr p.qty s (L.ins p.instr).mark=none):iw L a under s (l.drop k) x=none:=by
 rw[drop_cons h];conv=>lhs;unfold iw
 rw[if_pos hh,hg];rfl
theorem tJ {l:List Pos} {k:Nat} {p:Pos} {x g:Int} (h:l[k]?=some p) (hh:L.hit a under p.instr p.ak=true) (hg:jI L p.instr p.qty s (L.ins p.instr).mark=some g) (hs:lm x g=none):iw L a under s (l.drop k) x=none:=by
 rw[drop_cons h];conv=>lhs;unfold iw
 rw[if_pos hh,hg];show (lm x g).bind _=none;rw[hs];rfl
theorem tH {l:List Pos} {k:Nat} {p:Pos} {x g y:Int} (h:l[k]?=some p) (hh:L.hit a under p.instr p.ak=true) (hg:jI L p.instr p.qty s (L.ins p.instr).mark=some g) (hs:lm x g=some y):iw L a under s (l.drop k) x=iw L a under s (l.drop (k+1)) y:=by
 rw[drop_cons h];conv=>lhs;unfold iw
 rw[if_pos hh,hg];show (lm x g).bind _=_;rw[hs];rfl
theorem lC {l:List Ord} {k:Nat} {p:Ord} {x:Int} (h:l[k]?=some p) (hh:L.hit a under p.instr p.ak=false):fF L a under s (l.drop k) x=fF L a under s (l.drop (k+1)) x:=by
 rw[drop_cons h];conv=>lhs;unfold fF
 rw[if_neg (by simp[hh])]
theorem tu {l:List Ord} {k:Nat} {p:Ord} {x:Int} (h:l[k]?=some p) (hh:L.hit a under p.instr p.ak=true) (hg:jI L p.instr p.qty s p.price=none):fF L a under s (l.drop k) x=none:=by
 rw[drop_cons h];conv=>lhs;unfold fF
 rw[if_pos hh,hg];rfl
theorem oN {l:List Ord} {k:Nat} {p:Ord} {x g:Int} (h:l[k]?=some p) (hh:L.hit a under p.instr p.ak=true) (hg:jI L p.instr p.qty s p.price=some g) (hs:lm x (min g 0)=none):fF L a under s (l.drop k) x=none:=by
 rw[drop_cons h];conv=>lhs;unfold fF
 rw[if_pos hh,hg];show (lm x (min g 0)).bind _=none;rw[hs];rfl
theorem oM {l:List Ord} {k:Nat} {p:Ord} {x g y:Int} (h:l[k]?=some p) (hh:L.hit a under p.instr p.ak=true) (hg:jI L p.instr p.qty s p.price=some g) (hs:lm x (min g 0)=some y):fF L a under s (l.drop k) x=fF L a under s (l.drop (k+1)) y:=by
 rw[drop_cons h];conv=>lhs;unfold fF
 rw[if_pos hh,hg];show (lm x (min g 0)).bind _=_;rw[hs];rfl
theorem zh {i q f g:Int} (h:jI L i q s f=some g):aO g=true:=by
 unfold jI at h;obtain⟨rfl,_,_,hf⟩:=JF.1 h;exact hf
theorem um {x g y:Int} (h:lm x g=some y):aO y=true:=by obtain⟨rfl,_,_,hf⟩:=Kv.1 h;exact hf
theorem MC {p q:Int} (h0:0<=q) (h1:q<L.ai.length):L.hit a under p q=(decide ((L.ins p).under=under)&&(ints (gI L.parents a)).any fun y=>decide (q=y)):=by
 unfold aH.hit
 congr 1
 rw[Bool.eq_iff_iff]
 simp only[List.any_eq_true,decide_eq_true_eq,gq]
 constructor
 ·intro h;exact⟨q,List.mem_map.2 ⟨q.toNat,rO.2 ⟨by unfold aH.parents;rw[List.length_map];omega,h⟩,by omega⟩,rfl⟩
 rintro⟨y,hy,rfl⟩;obtain⟨n,hn,e⟩:=List.mem_map.1 hy;have:=(rO.1 hn).2;have e2:q.toNat=n:=by omega
 rw[e2];exact this
end
theorem Np (w:World) (b mb:Nat) (bv:Value) (V:aB) (L:aH) (a:Nat) (hS:dO w b mb bv V L a) (hg:L.Good) (under:Int) (s:Nat) (hs:s<21) :
 Calls Tryz.prog 191 #[.pointer (some ⟨b,0,none⟩),.int .i64 under,.int .i64 (s:Int)] w (lq w b mb bv V L a (jg L a under s)):=by
 have HS:=zq hS;have HG:=zq hg;have S21:=zq hs;obtain⟨a5,c5,e5⟩:=hS.led.au.form;obtain⟨a6,c6,e6⟩:=hS.led.orders.form;obtain⟨vb,nb,cb,eb⟩:∃ vb nb cb,bv=.slice vb nb cb:=by obtain⟨x,y,h⟩:=hS.below.form;exact⟨_,_,_,h⟩
 obtain⟨PN,hPN⟩:=Zn L.au.length;obtain⟨ON,hON⟩:=Zn L.orders.length;have LP:=zq hPN;have LO:=zq hON;have hp1:=hg.au.len;have ho1:=hg.orders.len;have d5:=hS.box.at_ 5 _ rfl;rw[e5,<-hPN] at d5;have EV:=zq (show V.au=.slice a5 PN c5/\V.orders=.slice a6 ON c6/\bv=.slice vb nb cb from ⟨by rw[hPN];exact e5,by rw[hON];exact e6,eb⟩);rw[<-hPN] at hp1;rw[<-hON] at ho1;obtain⟨R,hR⟩:=Zn (jg L a under s);have EQ:=zq hR;rw[<-hR];clear hS hg hs e5 e6 eb hPN hON hR
 go_enter Tryz.func191,Tryz.ntmps191
 go_wp2_with fail
 clear d5
 go_loopw [7,18] (fun al i wr=>∃ (k:Nat) (x:Int),k<=PN/\i=.int .i64 k/\al=.int .i64 x/\Hid (aO x=true)/\Turn w wr b mb bv V L a/\Hid (R=(iw L a under s (L.au.drop k) x).bind fun y=>fF L a under s L.orders y)) (fun _ i _=>PN - (intOf i).toNat)
 case atStart=>exact⟨0,0,Nat.zero_le _,rfl,rfl,zq (by decide),HS.o.here,zq (by rw[EQ.o];rfl)⟩
 obtain⟨k,x,hk,rfl,rfl,FX,ht,KEY⟩:=hrel;have TT:=zq ht;clear ht;by_cases hlt:k<PN
 ·obtain⟨p,hp⟩:∃ p,L.au[k]?=some p:=⟨_,Zg (by have:=LP.o;omega)⟩;have row:RowOf wr 3 Pos.cells (.slice a5 PN c5) L.au:=by have:=TT.o.s.led.au;rw[EV.o.1] at this;exact this
  obtain⟨pb,po,rfl,hbl,hc⟩:=row.at_ hp;have pok:=HG.o.au.all p (List.mem_of_getElem? hp);obtain⟨v,hv⟩:∃ v:Nat,p.ak=v:=⟨p.ak.toNat,by have:=pok.1;omega⟩;obtain⟨j,hj⟩:∃ j:Nat,p.instr=j:=⟨p.instr.toNat,by have:=pok.2.2.1;omega⟩;have c0:=hc 0 (.int .i64 p.ak) rfl;have c1:=hc 1 (.int .i64 p.instr) rfl;have c2:=hc 2 (.int .i64 p.qty) rfl;rw[Nat.add_zero] at c0;rw[hv] at c0;rw[hj] at c1;have hjl:j<L.af.length:=by have:=pok.2.2.2.1;omega
  obtain⟨i,hi⟩:∃ i,L.af[j]?=some i:=⟨_,List.getElem?_eq_getElem hjl⟩;have EI:=zq (show L.ins (j:Int)=i from by unfold aH.ins;simp[hi]);have iok:=HG.o.things.af i (List.mem_of_getElem? hi);have GA:=zq (fun W (hW:dO W b mb bv V L a)=>BG W b mb bv V L a hW HG.o j hjl s S21.o p.qty i.mark (by have:=pok.2.2.2.2.2.1;omega) (by have:=pok.2.2.2.2.2.2;omega) iok.2.2.2.2.1 iok.2.2.2.2.2.1);have HIT:=zq (MC (L:=L) (a:=a) (under:=under) (p:=p.instr) (q:=p.ak) (by omega) (by have:=pok.2.1;omega));rw[hj,hv,EI.o] at HIT;have OV:=zq (fun W (hW:dO W b mb bv V L a)=>Df W b mb bv V L a hW j hjl HG.o.things.i1 under);have CT:=zq (show ∀ W,dO W b mb bv V L a->Calls Tryz.prog 200 #[.slice vb nb cb,.int .i64 (v:Int)] W fun e w'=>e=.returned (.bool ((ints (gI L.parents a)).any fun y=>decide ((v:Int)=y)))/\W=w' from fun W hW=>oH W _ (ints (gI L.parents a)) (v:Int) (by have:=hW.below;rw[EV.o.2.2] at this;exact this));rw[EI.o] at OV;obtain⟨B1,hB1⟩:=Zn (decide (i.under=under));obtain⟨B2,hB2⟩:∃ B2,B2=(ints (gI L.parents a)).any fun y=>decide ((v:Int)=y):=⟨_,rfl⟩
  rw[<-hB1] at OV HIT;rw[<-hB2] at CT HIT;have HJ:=zq hj;have HV:=zq hv;have HP:=zq hp;have LT:=zq hlt;have hlt':(k:Int)<(PN:Int):=by omega
  have KC:=zq (show ∀ W,dO W b mb bv V L a->∃ ib io ni ci,W.cell? ⟨b,3,none⟩=some (.slice (some ⟨ib,io,none⟩) ni ci)/\(j:Int)<ni/\W.cell? ⟨ib,io+j*7+6,none⟩=some (.int .i64 i.mark) from by
   intro W hW;obtain⟨a3,c3,e3⟩:=hW.led.af.form;have bx:=hW.box;have r3:=hW.led.af;rw[e3] at bx r3;obtain⟨ib,io,rfl,_,ic⟩:=r3.at_ hi;exact⟨ib,io,_,c3,bx.at_ 3 _ rfl,by omega,ic 6 _ rfl⟩)
  clear hB1 hB2 row hc pok hv hj iok hi hp hbl hjl;obtain⟨W1,hW1⟩:=Zn (wr.alloc (.cells #[.int .i64 (v:Int),.int .i64 (j:Int),.int .i64 p.qty] 50));have TB:=zq (show Turn w W1 b mb bv V L a/\aY W1 wr.heap.size #[.int .i64 (v:Int),.int .i64 (j:Int),.int .i64 p.qty] from by
   rw[hW1];exact⟨TT.o.low (Zb),aY.new _ _ _⟩)
  go_wp2_with fail
  rw[<-hW1];obtain⟨h9,hh9⟩:=Zn wr.heap.size;rw[<-hh9] at TB ⊢;clear hW1 hh9 c0 c1 c2;have OVQ:=zq (show ∀ n,Calls Tryz.prog 201 #[.pointer (some ⟨b,0,none⟩),.int .i64 (j:Int),.int .i64 under] (W1.drewN n) fun e w'=>e=.returned (.bool B1)/\w'=W1.drewN n from fun n=>(OV.o _ (TB.o.1.s.low ((Mod.refl (fun _=>False) W1).drewN n).aU)).mono (fun e w' h=>⟨h.1,h.2.symm⟩));have CTQ:=zq (show ∀ n,Calls Tryz.prog 200 #[.slice vb nb cb,.int .i64 (v:Int)] (W1.drewN n) fun e w'=>e=.returned (.bool B2)/\w'=W1.drewN n from fun n=>(CT.o _ (TB.o.1.s.low ((Mod.refl (fun _=>False) W1).drewN n).aU)).mono (fun e w' h=>⟨h.1,h.2.symm⟩));have b0:W1.cell? ⟨h9,0,none⟩=some (.int .i64 (v:Int)):=TB.o.2.at_ 0 _ rfl;have b1:W1.cell? ⟨h9,1,none⟩=some (.int .i64 (j:Int)):=TB.o.2.at_ 1 _ rfl;have e9:W1.cell? ⟨b,9,none⟩=some (.slice vb nb cb):=by have:=TB.o.1.s.box.at_ 9 _ rfl;rw[EV.o.2.2] at this;exact this
  clear OV CT
  cases B1
  ·go_quiet ((first|exact Calls.quiet_of_same (OVQ.o _)|exact Calls.quiet_of_same (CTQ.o _)))
   obtain⟨W2,hW2⟩:=Zn (W1.drewN nq);have T2:=zq (show Turn w W2 b mb bv V L a from by rw[hW2];exact TB.o.1.low ((Mod.refl (fun _=>False) W1).drewN nq).aU);rw[<-hW2];clear hW2 b0 b1 e9
   go_wp2_with fail
   go_roundw
   case rel=>exact⟨k+1,x,by have:=LT.o;omega,by go_num,rfl,FX,T2.o,zq (by rw[KEY.o,lD HP.o (by rw[HJ.o,HV.o];exact HIT.o)])⟩
   case measure=>have:=LT.o;simp[intOf];omega
  cases B2
  ·go_quiet ((first|exact Calls.quiet_of_same (OVQ.o _)|exact Calls.quiet_of_same (CTQ.o _)))
   obtain⟨W2,hW2⟩:=Zn (W1.drewN nq);have T2:=zq (show Turn w W2 b mb bv V L a from by rw[hW2];exact TB.o.1.low ((Mod.refl (fun _=>False) W1).drewN nq).aU);rw[<-hW2];clear hW2 b0 b1 e9
   go_wp2_with fail
   go_roundw
   case rel=>exact⟨k+1,x,by have:=LT.o;omega,by go_num,rfl,FX,T2.o,zq (by rw[KEY.o,lD HP.o (by rw[HJ.o,HV.o];exact HIT.o)])⟩
   case measure=>have:=LT.o;simp[intOf];omega
  go_quiet ((first|exact Calls.quiet_of_same (OVQ.o _)|exact Calls.quiet_of_same (CTQ.o _)))
  obtain⟨W2,hW2⟩:=Zn (W1.drewN nq);have T2:=zq (show Turn w W2 b mb bv V L a/\aY W2 h9 #[.int .i64 (v:Int),.int .i64 (j:Int),.int .i64 p.qty] from by
   rw[hW2];exact⟨TB.o.1.low ((Mod.refl (fun _=>False) W1).drewN nq).aU,TB.o.2.mod ((Mod.refl (fun _=>False) W1).drewN nq) (fun h=>h)⟩)
  rw[<-hW2];clear hW2 b0 b1 e9 OVQ CTQ;have b1:W2.cell? ⟨h9,1,none⟩=some (.int .i64 (j:Int)):=T2.o.2.at_ 1 _ rfl;have b2:W2.cell? ⟨h9,2,none⟩=some (.int .i64 p.qty):=T2.o.2.at_ 2 _ rfl;obtain⟨ib,io,ni,ci,e3,jn,i6⟩:=KC.o W2 T2.o.1.s;have j0:(0:Int)<=(j:Int):=by omega
  go_wp2_with fail
  refine aX (C:=fun w'=>∃ z:dh (fun _=>True),w'=z.w) [17,18,21] [0] (.step 0 (.step 1 (.step 2 (.step 3 (.step 4 (.step 5 (.step 6 (.step 7 (.step 8 (.step 9 (.step 10 (.step 11 (.step 12 (.step 13 (.step 14 (.step 15 (.step 16 (.step 17 (.step 18 (.step 19 (.step 20 (.step 21 (.step 22 .leaf))))))))))))))))))))))) (fun c d w'=>d=[]/\lq w b mb bv V L a R (.panicked c) w') (by kernel_rfl) (fun c a' w' hR=>hR) (by kernel_rfl) ⟨⟨W2.drew,trivial⟩,rfl⟩ ?_
  haveI ne:Nonempty (dh (fun _=>True)):=⟨⟨W2,trivial⟩⟩
  refine bM [0] (by kernel_rfl) ?_
  simp only[ay,nth]
  repeat (go_big_quiet_step (fail))
  refine wpQuiet_nil ?_;refine aC [1,2,3,4,5,6,7,8,9,10,11,12,13,14,15,16] (by kernel_rfl) ?_
  simp only[ay,nth]
  repeat (go_big_quiet_step (fail))
  refine wpQuiet_nil ?_;refine aK (by kernel_rfl) rfl (fun K hK=>?_)
  simp only[ay,nth]
  refine aA ?_;go_simp;refine (GA.o _ (T2.o.1.s.low ((Mod.refl (fun _=>False) W2).drew).aU)).mono ?_;rintro e w3 ⟨ho,ht3⟩;have T3:=zq (show Turn w w3 b mb bv V L a from (T2.o.1.low ((Mod.refl (fun _=>False) W2).drew).aU).trans ht3);clear ht3;rcases ho with ⟨g,hg,rfl⟩|⟨hg,rfl⟩
  ·have GG:=zq hg;clear hg;have FS:=zq (fun W=>nP x g (I64.bU FX.o) (I64.bU (zh GG.o)) W);have ME:=zq (show (fK x g).2=0\/fK x g=(0,4) from by rcases qZ x g with h|h;exact Or.inl h.1;exact Or.inr h);have SO:=zq (show lm x g=iG (fK x g) from rfl);obtain⟨MR,hMR⟩:=Zn (fK x g);rw[<-hMR] at FS ME SO;clear hMR;go_simp;refine hK _ _ ⟨⟨w3,trivial⟩,rfl⟩ ?_;clear hK;refine aK (by kernel_rfl) rfl (fun K hK=>?_)
   simp only[ay,nth]
   refine aA ?_;go_simp;refine (FS.o _).mono ?_;rintro e w' ⟨rfl,rfl⟩;go_simp;refine hK _ _ ⟨⟨w3,trivial⟩,rfl⟩ ?_;clear hK;refine aC [19,20] (by kernel_rfl) ?_
   simp only[ay,nth]
   repeat (go_big_quiet_step (fail))
   refine wpQuiet_nil ?_;refine aK (by kernel_rfl) rfl (fun K hK=>?_)
   simp only[ay,nth]
   refine aA ?_;go_simp;refine (jc MR ME.o _).mono ?_;rintro e w' ⟨ho,rfl⟩;rcases ho with ⟨y,hy,rfl⟩|⟨hy,rfl⟩
   ·have HY:=zq (SO.o.trans hy);clear hy;go_simp;refine hK _ _ ⟨⟨w3,trivial⟩,rfl⟩ ?_;clear hK;refine aC [22] (by kernel_rfl) ?_
    simp only[ay,nth]
    repeat (go_big_quiet_step (fail))
    refine wpQuiet_nil ?_;refine bH ?_;clear b1 b2 e3 i6
    go_wp2_with fail
    go_roundw
    case rel=>exact⟨k+1,y,by have:=LT.o;omega,by go_num,rfl,zq (um HY.o),T3.o,zq (by rw[KEY.o,tH HP.o (by rw[HJ.o,HV.o];exact HIT.o) (by rw[HJ.o,EI.o];exact GG.o) HY.o])⟩
    case measure=>have:=LT.o;simp[intOf];omega
   have HY:=zq (SO.o.trans hy);clear hy;go_simp;exact⟨rfl,jL.none_ (by rw[KEY.o,tJ HP.o (by rw[HJ.o,HV.o];exact HIT.o) (by rw[HJ.o,EI.o];exact GG.o) HY.o];rfl),T3.o⟩
  have GG:=zq hg;clear hg;go_simp;exact⟨rfl,jL.none_ (by rw[KEY.o,tC HP.o (by rw[HJ.o,HV.o];exact HIT.o) (by rw[HJ.o,EI.o];exact GG.o)];rfl),T3.o⟩
 have hlt':¬ (k:Int)<(PN:Int):=by omega
 have d6:wr.cell? ⟨b,6,none⟩=some (.slice a6 ON c6):=by have:=TT.o.s.box.at_ 6 _ rfl;rw[EV.o.2.1] at this;exact this
 have KEY0:=zq (show R=fF L a under s (L.orders.drop 0) x from by
  rw[KEY.o,List.drop_of_length_le (by have:=LP.o;omega)];rfl)
 obtain⟨wo,rfl⟩:=Zn wr
 go_wp2_with fail
 clear d6 hlt';have T0:=TT;have FX0:=FX;clear TT FX KEY;obtain⟨x0,rfl⟩:=Zn x
 go_loopw [7,65] (fun al i wr=>∃ (k:Nat) (x:Int),k<=ON/\i=.int .i64 k/\al=.int .i64 x/\Hid (aO x=true)/\Turn w wr b mb bv V L a/\Hid (R=fF L a under s (L.orders.drop k) x)) (fun _ i _=>ON - (intOf i).toNat)
 case atStart=>exact⟨0,x0,Nat.zero_le _,rfl,rfl,FX0,T0.o,zq (by exact KEY0.o)⟩
 obtain⟨k,x,hk,rfl,rfl,FX,ht,KEY⟩:=hrel;have TT:=zq ht;clear ht;by_cases hlt:k<ON
 ·obtain⟨p,hp⟩:∃ p,L.orders[k]?=some p:=⟨_,Zg (by have:=LO.o;omega)⟩;have row:RowOf wr 5 Ord.cells (.slice a6 ON c6) L.orders:=by have:=TT.o.s.led.orders;rw[EV.o.2.1] at this;exact this
  obtain⟨pb,po,rfl,hbl,hc⟩:=row.at_ hp;have pok:=HG.o.orders.all p (List.mem_of_getElem? hp);obtain⟨v,hv⟩:∃ v:Nat,p.ak=v:=⟨p.ak.toNat,by have:=pok.1;omega⟩;obtain⟨j,hj⟩:∃ j:Nat,p.instr=j:=⟨p.instr.toNat,by have:=pok.2.2.2.2.1;omega⟩;have c0:=hc 0 (.int .i64 p.ak) rfl;have c1:=hc 1 (.int .i64 p.id) rfl;have c2:=hc 2 (.int .i64 p.instr) rfl;have c3:=hc 3 (.int .i64 p.qty) rfl;have c4:=hc 4 (.int .i64 p.price) rfl;rw[Nat.add_zero] at c0;rw[hv] at c0;rw[hj] at c2;have hjl:j<L.af.length:=by have:=pok.2.2.2.2.2.1;omega
  obtain⟨i,hi⟩:∃ i,L.af[j]?=some i:=⟨_,List.getElem?_eq_getElem hjl⟩;have EI:=zq (show L.ins (j:Int)=i from by unfold aH.ins;simp[hi]);have iok:=HG.o.things.af i (List.mem_of_getElem? hi);have GA:=zq (fun W (hW:dO W b mb bv V L a)=>BG W b mb bv V L a hW HG.o j hjl s S21.o p.qty p.price (by have:=pok.2.2.2.2.2.2.2.1;omega) (by have:=pok.2.2.2.2.2.2.2.2.1;omega) (by have:=pok.2.2.2.2.2.2.2.2.2.1;omega) pok.2.2.2.2.2.2.2.2.2.2);have HIT:=zq (MC (L:=L) (a:=a) (under:=under) (p:=p.instr) (q:=p.ak) (by omega) (by have:=pok.2.1;omega));rw[hj,hv,EI.o] at HIT;have OV:=zq (fun W (hW:dO W b mb bv V L a)=>Df W b mb bv V L a hW j hjl HG.o.things.i1 under);have CT:=zq (show ∀ W,dO W b mb bv V L a->Calls Tryz.prog 200 #[.slice vb nb cb,.int .i64 (v:Int)] W fun e w'=>e=.returned (.bool ((ints (gI L.parents a)).any fun y=>decide ((v:Int)=y)))/\W=w' from fun W hW=>oH W _ (ints (gI L.parents a)) (v:Int) (by have:=hW.below;rw[EV.o.2.2] at this;exact this));rw[EI.o] at OV;obtain⟨B1,hB1⟩:=Zn (decide (i.under=under));obtain⟨B2,hB2⟩:∃ B2,B2=(ints (gI L.parents a)).any fun y=>decide ((v:Int)=y):=⟨_,rfl⟩
  rw[<-hB1] at OV HIT;rw[<-hB2] at CT HIT;have HJ:=zq hj;have HV:=zq hv;have HP:=zq hp;have LT:=zq hlt;have hlt':(k:Int)<(ON:Int):=by omega
  clear hB1 hB2 row hc pok hv hj iok hi hp hbl hjl;obtain⟨W1,hW1⟩:=Zn (wr.alloc (.cells #[.int .i64 (v:Int),.int .i64 p.id,.int .i64 (j:Int),.int .i64 p.qty,.int .i64 p.price] 74));have TB:=zq (show Turn w W1 b mb bv V L a/\aY W1 wr.heap.size #[.int .i64 (v:Int),.int .i64 p.id,.int .i64 (j:Int),.int .i64 p.qty,.int .i64 p.price] from by
   rw[hW1];exact⟨TT.o.low (Zb),aY.new _ _ _⟩)
  go_wp2_with fail
  rw[<-hW1];obtain⟨h9,hh9⟩:=Zn wr.heap.size;rw[<-hh9] at TB ⊢;clear hW1 hh9 c0 c1 c2 c3 c4;have OVQ:=zq (show ∀ n,Calls Tryz.prog 201 #[.pointer (some ⟨b,0,none⟩),.int .i64 (j:Int),.int .i64 under] (W1.drewN n) fun e w'=>e=.returned (.bool B1)/\w'=W1.drewN n from fun n=>(OV.o _ (TB.o.1.s.low ((Mod.refl (fun _=>False) W1).drewN n).aU)).mono (fun e w' h=>⟨h.1,h.2.symm⟩));have CTQ:=zq (show ∀ n,Calls Tryz.prog 200 #[.slice vb nb cb,.int .i64 (v:Int)] (W1.drewN n) fun e w'=>e=.returned (.bool B2)/\w'=W1.drewN n from fun n=>(CT.o _ (TB.o.1.s.low ((Mod.refl (fun _=>False) W1).drewN n).aU)).mono (fun e w' h=>⟨h.1,h.2.symm⟩));have b0:W1.cell? ⟨h9,0,none⟩=some (.int .i64 (v:Int)):=TB.o.2.at_ 0 _ rfl;have b2:W1.cell? ⟨h9,2,none⟩=some (.int .i64 (j:Int)):=TB.o.2.at_ 2 _ rfl;have e9:W1.cell? ⟨b,9,none⟩=some (.slice vb nb cb):=by have:=TB.o.1.s.box.at_ 9 _ rfl;rw[EV.o.2.2] at this;exact this
  clear OV CT
  cases B1
  ·go_quiet ((first|exact Calls.quiet_of_same (OVQ.o _)|exact Calls.quiet_of_same (CTQ.o _)))
   obtain⟨W2,hW2⟩:=Zn (W1.drewN nq);have T2:=zq (show Turn w W2 b mb bv V L a from by rw[hW2];exact TB.o.1.low ((Mod.refl (fun _=>False) W1).drewN nq).aU);rw[<-hW2];clear hW2 b0 b2 e9
   go_wp2_with fail
   go_roundw
   case rel=>exact⟨k+1,x,by have:=LT.o;omega,by go_num,rfl,FX,T2.o,zq (by rw[KEY.o,lC HP.o (by rw[HJ.o,HV.o];exact HIT.o)])⟩
   case measure=>have:=LT.o;simp[intOf];omega
  cases B2
  ·go_quiet ((first|exact Calls.quiet_of_same (OVQ.o _)|exact Calls.quiet_of_same (CTQ.o _)))
   obtain⟨W2,hW2⟩:=Zn (W1.drewN nq);have T2:=zq (show Turn w W2 b mb bv V L a from by rw[hW2];exact TB.o.1.low ((Mod.refl (fun _=>False) W1).drewN nq).aU);rw[<-hW2];clear hW2 b0 b2 e9
   go_wp2_with fail
   go_roundw
   case rel=>exact⟨k+1,x,by have:=LT.o;omega,by go_num,rfl,FX,T2.o,zq (by rw[KEY.o,lC HP.o (by rw[HJ.o,HV.o];exact HIT.o)])⟩
   case measure=>have:=LT.o;simp[intOf];omega
  go_quiet ((first|exact Calls.quiet_of_same (OVQ.o _)|exact Calls.quiet_of_same (CTQ.o _)))
  obtain⟨W2,hW2⟩:=Zn (W1.drewN nq);have T2:=zq (show Turn w W2 b mb bv V L a/\aY W2 h9 #[.int .i64 (v:Int),.int .i64 p.id,.int .i64 (j:Int),.int .i64 p.qty,.int .i64 p.price] from by
   rw[hW2];exact⟨TB.o.1.low ((Mod.refl (fun _=>False) W1).drewN nq).aU,TB.o.2.mod ((Mod.refl (fun _=>False) W1).drewN nq) (fun h=>h)⟩)
  rw[<-hW2];clear hW2 b0 b2 e9 OVQ CTQ;have b2:W2.cell? ⟨h9,2,none⟩=some (.int .i64 (j:Int)):=T2.o.2.at_ 2 _ rfl;have b3:W2.cell? ⟨h9,3,none⟩=some (.int .i64 p.qty):=T2.o.2.at_ 3 _ rfl;have b4:W2.cell? ⟨h9,4,none⟩=some (.int .i64 p.price):=T2.o.2.at_ 4 _ rfl
  go_wp2_with fail
  refine (GA.o _ T2.o.1.s).mono ?_;rintro e w3 ⟨ho,ht3⟩;have T3:=zq (show Turn w w3 b mb bv V L a from T2.o.1.trans ht3);clear ht3 b2 b3 b4;rcases ho with ⟨g,hg,rfl⟩|⟨hg,rfl⟩
  ·have GG:=zq hg;clear hg;have GF:=aF.1 (zh GG.o);have FS:=zq (fun W=>nP x (min g 0) (I64.bU FX.o) (I64.bU (aF.2 (by omega))) W);have ME:=zq (show (fK x (min g 0)).2=0\/fK x (min g 0)=(0,4) from by rcases qZ x (min g 0) with h|h;exact Or.inl h.1;exact Or.inr h);have SO:=zq (show lm x (min g 0)=iG (fK x (min g 0)) from rfl);obtain⟨MR,hMR⟩:=Zn (fK x (min g 0));rw[<-hMR] at FS ME SO;clear hMR GF
   go_wp2_with fail
   refine (FS.o _).mono ?_;rintro e w' ⟨rfl,rfl⟩
   go_wp2_with fail
   refine (jc MR ME.o _).mono ?_;rintro e w' ⟨ho,rfl⟩;rcases ho with ⟨y,hy,rfl⟩|⟨hy,rfl⟩
   ·have HY:=zq (SO.o.trans hy);clear hy
    go_wp2_with fail
    go_roundw
    case rel=>exact⟨k+1,y,by have:=LT.o;omega,by go_num,rfl,zq (um HY.o),T3.o,zq (by rw[KEY.o,oM HP.o (by rw[HJ.o,HV.o];exact HIT.o) (by rw[HJ.o];exact GG.o) HY.o])⟩
    case measure=>have:=LT.o;simp[intOf];omega
   have HY:=zq (SO.o.trans hy);clear hy
   go_wp2_with fail
   exact⟨rfl,jL.none_ (by rw[KEY.o,oN HP.o (by rw[HJ.o,HV.o];exact HIT.o) (by rw[HJ.o];exact GG.o) HY.o]),T3.o⟩
  have GG:=zq hg;clear hg
  go_wp2_with fail
  exact⟨rfl,jL.none_ (by rw[KEY.o,tu HP.o (by rw[HJ.o,HV.o];exact HIT.o) (by rw[HJ.o];exact GG.o)]),T3.o⟩
 have hlt':¬ (k:Int)<(ON:Int):=by omega
 go_wp2_with fail
 go_ret;exact⟨jL.some_ (by rw[KEY.o,List.drop_of_length_le (by have:=LO.o;omega)];rfl),TT.o⟩
end Go.Proofs.YtcepekniflaoaaaGreatDoor
namespace Go.Proofs.YtcepekniflaoaaaGreatDoor
open Go.RowKit Go.Bw Go.Maps Go.Shelf Go.Bw.Fall
theorem Cb (g:Nat->Int) (k:Nat) (hk:k<21) (w:World):(Instr.index 191 (.agg (bI g)) (.int .i64 (k:Int))).run Tryz.prog w=.ok (.int .i64 (g k)) w:=by
 have h:=yj.o;have h2:=kG g hk;have h3:=fA g;have hk2:(k:Int)<21:=by omega
 have hu:Tryz.prog.underlying 3=some (.int .i64):=Py;simp[Instr.index,run_underlying h,h2,h3,hk2,asIntOf,part,isAgg,run_underlying hu];intro h;omega
def KT (g:Nat->Int) (n:Nat):Prop:=n<21/\∀ j,j<21->g j<=g n
def KU (g:Nat->Int) (w:World) (e:Ending) (w':World):Prop:=∃ n:Nat,KT g n/\e=.returned (.tuple #[.int .i64 (g n),.int .i64 (n:Int)])/\Below w.heap.size w w'
theorem Fa (w:World) (g:Nat->Int) (hg:∀ j,j<21->I64 (g j)):Calls Tryz.prog 192 #[.agg (bI g)] w (KU g w):=by
 have HB:=zq ((Below.refl w.heap.size w).alloc (Nat.le_refl _) (.cells (bI g) 191));have H0:=zq (heap_alloc_last w (.cells (bI g) 191))
 go_enter Tryz.func192,Tryz.ntmps192
 go_wp2_with (refine wpList_load_row rfl 191 (.tmp 1) rfl w.heap.size rfl 191 (bI g) (0,0) _ H0.o yj.o rfl (ou g).o ?_)
 obtain⟨W,hW⟩:=Zn (w.alloc (.cells (bI g) 191));rw[<-hW] at HB ⊢;have CL:=zq (show ∀ j,j<21->W.cell? ⟨w.heap.size,j,none⟩=some (.int .i64 (g j)) from fun j hj=>by rw[hW,cell_of_heap (heap_alloc_last w _)];exact kG g hj);have IX:=zq (fun k hk W=>Cb g k hk W);have GG:=zq hg;clear hW hg H0
 go_loopw [4,8] (fun av i wr=>∃ (k n:Nat),k<=21/\n<21/\i=.int .i64 k/\av=.int .i64 n/\Hid (∀ j,j<k->g j<=g n)/\wr=W) (fun _ i _=>21 - (intOf i).toNat)
 case atStart=>exact⟨0,0,by omega,by omega,rfl,rfl,zq (fun j hj=>by omega),rfl⟩
 obtain⟨k,n,hk,hn,rfl,rfl,TOP,rfl⟩:=hrel;have cn:=CL.o n hn;have n0:(0:Int)<=(n:Int):=by omega
 have n1:(n:Int)<21:=by omega
 by_cases hlt:k<21
 ·have hlt':(k:Int)<21:=by omega
  have ix:=IX.o k hlt;have LT:=zq hlt;have HN:=zq hn;clear hk hlt hn;by_cases hx:g n<g k
  ·have HX:=zq hx
   go_wp2_with fail
   go_roundw
   case rel=>exact⟨k+1,k,by have:=LT.o;omega,LT.o,by go_num,rfl,zq (fun j hj=>by
    have h1:=HX.o;by_cases e:j=k
    ·rw[e];omega
    have:=TOP.o j (by omega);omega),trivial⟩
   case measure=>have:=LT.o;simp[intOf];omega
  have HX:=zq hx
  go_wp2_with fail
  go_roundw
  case rel=>exact⟨k+1,n,by have:=LT.o;omega,HN.o,by go_num,rfl,zq (fun j hj=>by
   have h1:=HX.o;by_cases e:j=k
   ·rw[e];omega
   exact TOP.o j (by omega)),trivial⟩
  case measure=>have:=LT.o;simp[intOf];omega
 have hlt':¬ (k:Int)<21:=by omega
 have HN:=zq (show KT g n from ⟨hn,fun j hj=>TOP.o j (by omega)⟩);clear hk hn
 go_wp2_with fail
 go_ret2;exact⟨n,HN.o,rfl,HB.o⟩
theorem vY {L:aH} {a:Nat} {under:Int} {g:Nat->Int}:∀ n,(∀ j,j<n->jg L a under j=some (g j))->∃ m,iF L a under n=some m/\0<=m/\(∀ j,j<n->g j<=m)/\(m=0\/∃ j,j<n/\m=g j)
 | 0,_=>⟨0,rfl,by omega,fun j hj=>by omega,Or.inl rfl⟩
 | n+1,h=>by
   obtain⟨m,h1,h2,h3,h4⟩:=vY n (fun j hj=>h j (by omega));refine⟨max m (g n),?_,by omega,fun j hj=>?_,?_⟩
   ·show ((iF L a under n).bind fun w=>(jg L a under n).map fun x=>max w x)=_
    rw[h1,h n (by omega)];rfl
   ·by_cases e:j=n
    ·rw[e];omega
    have:=h3 j (by omega);omega
   by_cases e:g n<=m
   ·rw[show max m (g n)=m by omega];rcases h4 with h4|⟨j,hj,h4⟩
    ·exact Or.inl h4
    exact Or.inr ⟨j,by omega,h4⟩
   exact Or.inr ⟨n,by omega,by omega⟩
theorem H7 {L:aH} {a:Nat} {under:Int} {g:Nat->Int} {n:Nat} (h:∀ j,j<21->jg L a under j=some (g j)) (ht:KT g n):iF L a under 21=some (max (g n) 0):=by
 obtain⟨m,h1,h2,h3,h4⟩:=vY 21 h;have h5:=h3 n ht.1;rw[h1]
 congr 1
 rcases h4 with h4|⟨j,hj,h4⟩
 ·omega
 have:=ht.2 j hj;omega
theorem qO {L:aH} {a:Nat} {under:Int} {k:Nat} (h:jg L a under k=none):∀ n,k<n->iF L a under n=none
 | 0,hn=>by omega
 | n+1,hn=>by
   show ((iF L a under n).bind fun w=>(jg L a under n).map fun x=>max w x)=_
   by_cases e:k=n
   ·subst e;rw[h];cases iF L a under k <;> rfl
   rw[qO h n (by omega)];rfl
theorem xE {L:aH} {a:Nat} {under:Int} {s:Nat} {x:Int} (h:jg L a under s=some x):aO x=true:=by
 have ord:∀ (os:List Ord) (x y:Int),aO x=true->fF L a under s os x=some y->aO y=true:=by
  intro os
  induction os with
  | nil=>intro x y hx h;cases h;exact hx
  | cons o r ih =>
    intro x y hx h;unfold fF at h;by_cases hh:L.hit a under o.instr o.ak=true
    ·rw[if_pos hh,Option.bind_eq_some_iff] at h;obtain⟨g,_,h⟩:=h;rw[Option.bind_eq_some_iff] at h;obtain⟨z,hz,h⟩:=h;exact ih z y (um hz) h
    rw[if_neg hh] at h;exact ih x y hx h
 have pos:∀ (ps:List Pos) (x y:Int),aO x=true->iw L a under s ps x=some y->aO y=true:=by
  intro ps
  induction ps with
  | nil=>intro x y hx h;cases h;exact hx
  | cons o r ih =>
    intro x y hx h;unfold iw at h;by_cases hh:L.hit a under o.instr o.ak=true
    ·rw[if_pos hh,Option.bind_eq_some_iff] at h;obtain⟨g,_,h⟩:=h;rw[Option.bind_eq_some_iff] at h;obtain⟨z,hz,h⟩:=h;exact ih z y (um hz) h
    rw[if_neg hh] at h;exact ih x y hx h
 unfold jg at h;rw[Option.bind_eq_some_iff] at h;obtain⟨y,hy,h⟩:=h;exact ord _ _ _ (pos _ _ _ (by decide) hy) h
def jA (w:World) (b:Nat) (g:Nat->Int) (k:Nat):Prop:=∃ A,w.heap[b]?=some (.cells A 191 (0,0))/\A.size=21/\∀ j,j<k->A[j]?=some (.int .i64 (g j))
theorem jA.mod {w w':World} {b:Nat} {g:Nat->Int} {k:Nat} {S:Nat->Prop} (h:jA w b g k) (hm:Mod S w w') (hS:¬ S b):jA w' b g k:=by
 obtain⟨A,h1,h2,h3⟩:=h;exact⟨A,hm.heap h1 hS,h2,h3⟩
theorem jA.next {w:World} {b:Nat} {g:Nat->Int} {k:Nat} (h:jA w b g k) (hk:k<21) (x:Int) (hx:x=g k):jA (w.setCell ⟨b,k,none⟩ (.int .i64 x)) b g (k+1):=by
 obtain⟨A,h1,h2,h3⟩:=h;refine⟨_,bC h1 k _,by simp[h2],fun j hj=>?_⟩;by_cases e:j=k
 ·subst e;rw[Array.getElem?_setIfInBounds_self_of_lt (by omega),hx]
 rw[Array.getElem?_setIfInBounds_ne (by omega)];exact h3 j (by omega)
theorem jA.full {w:World} {b:Nat} {g:Nat->Int} (h:jA w b g 21):w.heap[b]?=some (.cells (bI g) 191 (0,0)):=by
 obtain⟨A,h1,h2,h3⟩:=h;rw[<-uU h2 h3];exact h1
theorem jA.new (w:World) (g:Nat->Int):jA (w.alloc (.cells (Array.replicate 21 (.int .i64 0)) 191)) w.heap.size g 0:=⟨_,heap_alloc_last _ _,by simp,fun j hj=>by omega⟩
theorem KG (w:World) (b mb:Nat) (bv:Value) (V:aB) (L:aH) (a:Nat) (hS:dO w b mb bv V L a) (hg:L.Good) (under:Int) :
 Calls Tryz.prog 178 #[.pointer (some ⟨b,0,none⟩),.int .i64 under] w (lq w b mb bv V L a (iF L a under 21)):=by
 have HS:=zq hS;have LS:=zq (fun W (hW:dO W b mb bv V L a) s (hs:s<21)=>Np W b mb bv V L a hW hg under s hs);obtain⟨g,hgd⟩:∃ g:Nat->Int,g=fun s=>(jg L a under s).getD 0:=⟨_,rfl⟩
 have GD:=zq (show ∀ s x,jg L a under s=some x->x=g s from fun s x h=>by rw[hgd];simp[h]);have GF:=zq (show ∀ s,I64 (g s) from fun s=>by
  rw[hgd]
  show I64 ((jg L a under s).getD 0)
  cases h:jg L a under s with
  | none=>exact⟨by decide,by decide⟩
  | some x=>exact I64.bU (xE h))
 obtain⟨R,hR⟩:=Zn (iF L a under 21);have EQ:=zq hR;rw[<-hR];clear hS hg hgd hR
 go_enter Tryz.func178,Tryz.ntmps178
 go_wp2_with fail
 obtain⟨W,hW⟩:=Zn (w.alloc (.cells (Array.replicate 21 (.int .i64 0)) 191));have T0:=zq (show Turn w W b mb bv V L a/\jA W w.heap.size g 0/\w.heap.size<W.heap.size from by rw[hW];exact⟨HS.o.here.low (Zb),jA.new _ _,by simp⟩)
 simp only[show Array.replicate 21 (Value.int .i64 0)=#[.int .i64 0,.int .i64 0,.int .i64 0,.int .i64 0,.int .i64 0,.int .i64 0,.int .i64 0,.int .i64 0,.int .i64 0,.int .i64 0,.int .i64 0,.int .i64 0,.int .i64 0,.int .i64 0,.int .i64 0,.int .i64 0,.int .i64 0,.int .i64 0,.int .i64 0,.int .i64 0,.int .i64 0] from rfl] at hW
 rw[<-hW];obtain⟨h5,hh5⟩:=Zn w.heap.size;rw[<-hh5] at T0 ⊢;have H5:=zq (show w.heap.size<=h5/\mb<h5 from by have:=HS.o.units.lt;omega);clear hW hh5
 go_loopw [9] (fun i wr=>∃ (k:Nat),k<=21/\i=.int .i64 k/\Turn w wr b mb bv V L a/\jA wr h5 g k/\Hid (∀ j,j<k->jg L a under j=some (g j))/\h5<wr.heap.size) (fun i _=>21 - (intOf i).toNat)
 case atStart=>exact⟨0,by omega,rfl,T0.o.1,T0.o.2.1,zq (fun j hj=>by omega),T0.o.2.2⟩
 obtain⟨k,hk,rfl,ht,hf,ALL,h5l⟩:=hrel;have TT:=zq (And.intro ht (And.intro hf h5l));clear ht hf h5l;by_cases hlt:k<21
 ·have hlt':(k:Int)<21:=by omega
  have LT:=zq hlt;have k0:(0:Int)<=(k:Int):=by omega
  clear hk hlt
  go_wp2_with fail
  refine (LS.o _ TT.o.1.s k LT.o).mono ?_;rintro e w3 ⟨ho,ht3⟩;have T3:=zq (show Turn w w3 b mb bv V L a/\jA w3 h5 g k/\h5<w3.heap.size from ⟨TT.o.1.trans ht3,TT.o.2.1.mod ht3.m (by have:=H5.o.2;omega),Nat.lt_of_lt_of_le TT.o.2.2 ht3.m.size⟩);clear ht3;rcases ho with ⟨x,hx,rfl⟩|⟨hx,rfl⟩
  ·have HX:=zq hx;obtain⟨A,ha,as1,_⟩:=T3.o.2.1;obtain⟨y,hy⟩:∃ y,A[k]?=some y:=⟨_,Array.getElem?_eq_getElem (by have:=LT.o;omega)⟩;have a0:w3.cell? ⟨h5,k,none⟩=some y:=(cell_of_heap ha k).trans hy;have z0:=aP ha k;clear hx ha as1 hy
   go_wp2_with fail
   have T4:=zq (show Turn w (w3.setCell ⟨h5,k,none⟩ (.int .i64 x)) b mb bv V L a/\jA (w3.setCell ⟨h5,k,none⟩ (.int .i64 x)) h5 g (k+1)/\h5<(w3.setCell ⟨h5,k,none⟩ (.int .i64 x)).heap.size from
    ⟨⟨HS.o.turn (T3.o.1.m.setCell _ (fun h=>by have:=H5.o.1;simp at h;omega)) (T3.o.1.s.units.mod ((Mod.refl (fun k=>k=h5) w3).setCell _ (fun _=>rfl)) (by have:=H5.o.2;omega)),T3.o.1.m.setCell _ (fun h=>by have:=H5.o.1;simp at h;omega)⟩,T3.o.2.1.next LT.o x (GD.o _ _ HX.o),by simpa [World.setCell] using T3.o.2.2⟩)
   go_roundw
   case rel=>exact⟨k+1,by have:=LT.o;omega,by go_num,T4.o.1,T4.o.2.1,zq (fun j hj=>by
    by_cases e:j=k
    ·rw[e,HX.o,<-GD.o _ _ HX.o]
    exact ALL.o j (by omega)),T4.o.2.2⟩
   case measure=>have:=LT.o;simp[intOf];omega
  have HX:=zq hx;clear hx
  go_wp2_with fail
  exact⟨rfl,jL.none_ (by rw[EQ.o];exact qO HX.o 21 LT.o),T3.o.1⟩
 have hlt':¬ (k:Int)<21:=by omega
 obtain rfl:k=21:=by omega
 have HF:=zq TT.o.2.1.full;have WC:=zq (Fa wr g (fun j _=>GF.o j));clear hk hlt
 go_wp2_with (refine wpList_load_row rfl 191 (.tmp 5) rfl h5 rfl 191 (bI g) (0,0) _ HF.o yj.o rfl (ou g).o ?_)
 refine WC.o.mono ?_;rintro e w3 ⟨n,hn,rfl,hb⟩;have T3:=zq (show Turn w w3 b mb bv V L a from TT.o.1.low hb);have TP:=zq hn;clear hn hb
 go_wp2_with fail
 go_ret;exact⟨jL.some_ (by rw[EQ.o];exact H7 ALL.o TP.o),T3.o⟩
end Go.Proofs.YtcepekniflaoaaaGreatDoor
namespace Go.Proofs.YtcepekniflaoaaaGreatDoor
open Go.RowKit Go.Bw Go.Maps Go.Shelf
theorem Qs (q:Nat) (neg:Bool):(kF q neg).2=0/\aO (kF q neg).1=true\/kF q neg=(0,4):=by
 by_cases h:q<=4611686018427387904
 ·rw[uM h];refine Or.inl ⟨rfl,aF.2 ?_⟩
  cases neg
  ·show -4611686018427387904<=(q:Int)/\(q:Int)<=_;omega
  show -4611686018427387904<=-(q:Int)/\-(q:Int)<=_;omega
 exact Or.inr (nY (by omega))
theorem xI (a b c mode:Int) (hc:c≠0) (h0:0<=mode) (h3:mode<=3):(iT a b c mode).2=0/\aO (iT a b c mode).1=true\/iT a b c mode=(0,4):=by
 unfold iT
 split
 ·exact Or.inr rfl
 rw[if_neg (by omega)];exact Qs _ _
def jh (c:gu) (x:Int):Int×Int :=
 if (iT x c.rate 1000000 0).2≠0 then (0,(iT x c.rate 1000000 0).2)
 else iT (iT x c.rate 1000000 0).1 (if (iT x c.rate 1000000 0).1<0 then 10000+c.dL else 10000 - c.dL) 10000 0
theorem yt (c:gu) (x:Int):mM c x=iG (jh c x):=by
 unfold mM nH jh;rcases xI x c.rate 1000000 0 (by omega) (by omega) (by omega) with h|h
 ·rw[if_neg (by rw[h.1];simp)];unfold iG;rw[if_pos h.1];rfl
 rw[h,if_pos (by decide)];rfl
theorem zM (c:gu) (x:Int):(jh c x).2=0/\aO (jh c x).1=true\/jh c x=(0,4):=by
 unfold jh;rcases xI x c.rate 1000000 0 (by omega) (by omega) (by omega) with h|h
 ·rw[if_neg (by rw[h.1];simp)];exact xI _ _ _ _ (by omega) (by omega) (by omega)
 rw[h,if_pos (by decide)];exact Or.inr rfl
theorem gu.ok1 {c:gu} {n:Nat} (h:c.Ok n):c.Ok 1:=⟨h.1,h.2.1,h.2.2.1,h.2.2.2.1,fun h=>by omega⟩
open Classical in
theorem zC (c:gu) (n:Nat) (hc:c.Ok n) (x mode:Int) (hx:I64 x) (m0:0<=mode) (m1:mode<=3) (w:World) :
 Calls Tryz.prog 177 #[.agg #[.int .i64 c.rate,.int .i64 c.dL],.int .i64 x,.int .i64 mode] w fun e w'=>e=.returned (.tuple #[.int .i64 (iT x c.rate 1000000 mode).1,.int .i64 (iT x c.rate 1000000 mode).2])/\Below w.heap.size w w':=by
 have CU:=zq (show ∀ W,Calls Tryz.prog 132 #[.agg #[.int .i64 c.rate,.int .i64 c.dL],.int .i64 1] W fun e w'=>e=.returned (.bool true)/\Below W.heap.size W w' from fun W=>by
  have:=Il c 1 (by omega) W;rw[decide_eq_true (gu.ok1 hc)] at this;exact this)
 have MD:=zq (fun W=>lu x c.rate 1000000 mode hx (I64.bU (aF.2 (by have:=hc.1;have:=hc.2.1;omega))) (I64.bU (by decide)) W);obtain⟨R,hR⟩:=Zn (iT x c.rate 1000000 mode);rw[<-hR] at MD ⊢;have B0:=zq ((Below.refl w.heap.size w).alloc (Nat.le_refl _) (.cells #[.int .i64 c.rate,.int .i64 c.dL] 86));have M0:=zq (show aY (w.alloc (.cells #[.int .i64 c.rate,.int .i64 c.dL] 86)) w.heap.size #[.int .i64 c.rate,.int .i64 c.dL] from aY.new _ _ _);clear hc hR hx
 go_enter Tryz.func177,Tryz.ntmps177
 go_wp2_with fail
 refine (CU.o _).mono ?_;rintro e w1 ⟨rfl,hb⟩;have B1:=zq (B0.o.trans (hb.mono (by simp)));have c0:w1.cell? ⟨w.heap.size,0,none⟩=some (.int .i64 c.rate):=(M0.o.below hb).at_ 0 _ rfl;clear hb
 go_wp2_with fail
 refine (MD.o _).mono ?_;rintro e w2 ⟨rfl,nd,rfl⟩;have B2:=zq (B1.o.trans (((Mod.refl (fun _=>False) w1).drewN nd).aU.mono B1.o.size))
 go_wp2_with fail
 go_ret2;exact⟨rfl,B2.o⟩
theorem Gh (c:gu) (n:Nat) (hc:c.Ok n) (x:Int) (hx:I64 x) (w:World) :
 Calls Tryz.prog 176 #[.agg #[.int .i64 c.rate,.int .i64 c.dL],.int .i64 x] w fun e w'=>e=.returned (.tuple #[.int .i64 (jh c x).1,.int .i64 (jh c x).2])/\Below w.heap.size w w':=by
 have BA:=zq (fun W=>zC c n hc x 0 hx (by omega) (by omega) W);have B0:=zq ((Below.refl w.heap.size w).alloc (Nat.le_refl _) (.cells #[.int .i64 c.rate,.int .i64 c.dL] 86));have M0:=zq (show aY (w.alloc (.cells #[.int .i64 c.rate,.int .i64 c.dL] 86)) w.heap.size #[.int .i64 c.rate,.int .i64 c.dL] from aY.new _ _ _);obtain⟨R,hR⟩:=Zn (jh c x);rw[<-hR];have ER:=xI x c.rate 1000000 0 (by omega) (by omega) (by omega);unfold jh at hR;obtain⟨Y,hY⟩:=Zn (iT x c.rate 1000000 0);rw[<-hY] at BA ER hR;obtain⟨y,er⟩:=Y;have h0:=hc.2.2.1;have h1:=hc.2.2.2.1
 simp only at ER hR
 clear hY hc hx;rcases ER with ⟨rfl,hf⟩|he
 ·rw[if_neg (by simp)] at hR;have iy:=I64.bU hf;have MP:=zq (fun W=>lu y (10000+c.dL) 10000 0 iy (I64.bU (aF.2 (by omega))) (I64.bU (by decide)) W);have MM:=zq (fun W=>lu y (10000 - c.dL) 10000 0 iy (I64.bU (aF.2 (by omega))) (I64.bU (by decide)) W);by_cases hy:y<0
  ·rw[if_pos hy] at hR;rw[<-hR] at MP;clear hR hf iy MM
   go_enter Tryz.func176,Tryz.ntmps176
   go_wp2_with fail
   refine (BA.o _).mono ?_;rintro e w1 ⟨rfl,hb⟩;have B1:=zq (B0.o.trans (hb.mono (by simp)));have c1:w1.cell? ⟨w.heap.size,1,none⟩=some (.int .i64 c.dL):=(M0.o.below hb).at_ 1 _ rfl;clear hb
   go_wp2_with fail
   refine (MP.o _).mono ?_;rintro e w2 ⟨rfl,nd,rfl⟩;have B2:=zq (B1.o.trans (((Mod.refl (fun _=>False) w1).drewN nd).aU.mono B1.o.size))
   go_wp2_with fail
   go_ret2;exact⟨rfl,B2.o⟩
  rw[if_neg hy] at hR;rw[<-hR] at MM;clear hR hf iy MP
  go_enter Tryz.func176,Tryz.ntmps176
  go_wp2_with fail
  refine (BA.o _).mono ?_;rintro e w1 ⟨rfl,hb⟩;have B1:=zq (B0.o.trans (hb.mono (by simp)));have c1:w1.cell? ⟨w.heap.size,1,none⟩=some (.int .i64 c.dL):=(M0.o.below hb).at_ 1 _ rfl;clear hb
  go_wp2_with fail
  refine (MM.o _).mono ?_;rintro e w2 ⟨rfl,nd,rfl⟩;have B2:=zq (B1.o.trans (((Mod.refl (fun _=>False) w1).drewN nd).aU.mono B1.o.size))
  go_wp2_with fail
  go_ret2;exact⟨rfl,B2.o⟩
 cases he;rw[if_pos (by decide)] at hR;subst hR
 go_enter Tryz.func176,Tryz.ntmps176
 go_wp2_with fail
 refine (BA.o _).mono ?_;rintro e w1 ⟨rfl,hb⟩;have B1:=zq (B0.o.trans (hb.mono (by simp)));clear hb
 go_wp2_with fail
 go_ret2;exact⟨rfl,B1.o⟩
open Classical in
theorem zF (c:gu) (n:Nat) (hc:c.Ok n) (x mode:Int) (hx:I64 x) (m0:0<=mode) (m1:mode<=3) (w:World) :
 Calls Tryz.prog 182 #[.agg #[.int .i64 c.rate,.int .i64 c.dL],.int .i64 x,.int .i64 mode] w fun e w'=>e=.returned (.tuple #[.int .i64 (iT x c.rate 1000000 mode).1,.int .i64 (iT x c.rate 1000000 mode).2])/\Below w.heap.size w w':=by
 have CU:=zq (show ∀ W,Calls Tryz.prog 72 #[.agg #[.int .i64 c.rate,.int .i64 c.dL],.int .i64 1] W fun e w'=>e=.returned (.bool true)/\Below W.heap.size W w' from fun W=>by
  have:=Dq c 1 (by omega) W;rw[decide_eq_true (gu.ok1 hc)] at this;exact this)
 have MD:=zq (fun W=>kK x c.rate 1000000 mode W);obtain⟨R,hR⟩:=Zn (iT x c.rate 1000000 mode);rw[<-hR] at MD ⊢;have B0:=zq ((Below.refl w.heap.size w).alloc (Nat.le_refl _) (.cells #[.int .i64 c.rate,.int .i64 c.dL] 86));have M0:=zq (show aY (w.alloc (.cells #[.int .i64 c.rate,.int .i64 c.dL] 86)) w.heap.size #[.int .i64 c.rate,.int .i64 c.dL] from aY.new _ _ _);clear hc hR hx
 go_enter Tryz.func182,Tryz.ntmps182
 go_wp2_with fail
 refine (CU.o _).mono ?_;rintro e w1 ⟨rfl,hb⟩;have B1:=zq (B0.o.trans (hb.mono (by simp)));have c0:w1.cell? ⟨w.heap.size,0,none⟩=some (.int .i64 c.rate):=(M0.o.below hb).at_ 0 _ rfl;clear hb
 go_wp2_with fail
 refine (MD.o _).mono ?_;rintro e w2 ⟨rfl,hb2⟩;have B2:=zq (B1.o.trans (hb2.mono B1.o.size));clear hb2
 go_wp2_with fail
 go_ret2;exact⟨rfl,B2.o⟩
theorem GY (c:gu) (n:Nat) (hc:c.Ok n) (x:Int) (hx:I64 x) (w:World) :
 Calls Tryz.prog 180 #[.agg #[.int .i64 c.rate,.int .i64 c.dL],.int .i64 x] w fun e w'=>e=.returned (.tuple #[.int .i64 (jh c x).1,.int .i64 (jh c x).2])/\Below w.heap.size w w':=by
 have BA:=zq (fun W=>zF c n hc x 0 hx (by omega) (by omega) W);have B0:=zq ((Below.refl w.heap.size w).alloc (Nat.le_refl _) (.cells #[.int .i64 c.rate,.int .i64 c.dL] 86));have M0:=zq (show aY (w.alloc (.cells #[.int .i64 c.rate,.int .i64 c.dL] 86)) w.heap.size #[.int .i64 c.rate,.int .i64 c.dL] from aY.new _ _ _);obtain⟨R,hR⟩:=Zn (jh c x);rw[<-hR];have ER:=xI x c.rate 1000000 0 (by omega) (by omega) (by omega);unfold jh at hR;obtain⟨Y,hY⟩:=Zn (iT x c.rate 1000000 0);rw[<-hY] at BA ER hR;obtain⟨y,er⟩:=Y;have h0:=hc.2.2.1;have h1:=hc.2.2.2.1
 simp only at ER hR
 clear hY hc hx;rcases ER with ⟨rfl,hf⟩|he
 ·rw[if_neg (by simp)] at hR;have iy:=I64.bU hf;have MP:=zq (fun W=>kK y (10000+c.dL) 10000 0 W);have MM:=zq (fun W=>kK y (10000 - c.dL) 10000 0 W);by_cases hy:y<0
  ·rw[if_pos hy] at hR;rw[<-hR] at MP;clear hR hf iy MM
   go_enter Tryz.func180,Tryz.ntmps180
   go_wp2_with fail
   refine (BA.o _).mono ?_;rintro e w1 ⟨rfl,hb⟩;have B1:=zq (B0.o.trans (hb.mono (by simp)));have c1:w1.cell? ⟨w.heap.size,1,none⟩=some (.int .i64 c.dL):=(M0.o.below hb).at_ 1 _ rfl;clear hb
   go_wp2_with fail
   refine (MP.o _).mono ?_;rintro e w2 ⟨rfl,hb2⟩;have B2:=zq (B1.o.trans (hb2.mono B1.o.size));clear hb2
   go_wp2_with fail
   go_ret2;exact⟨rfl,B2.o⟩
  rw[if_neg hy] at hR;rw[<-hR] at MM;clear hR hf iy MP
  go_enter Tryz.func180,Tryz.ntmps180
  go_wp2_with fail
  refine (BA.o _).mono ?_;rintro e w1 ⟨rfl,hb⟩;have B1:=zq (B0.o.trans (hb.mono (by simp)));have c1:w1.cell? ⟨w.heap.size,1,none⟩=some (.int .i64 c.dL):=(M0.o.below hb).at_ 1 _ rfl;clear hb
  go_wp2_with fail
  refine (MM.o _).mono ?_;rintro e w2 ⟨rfl,hb2⟩;have B2:=zq (B1.o.trans (hb2.mono B1.o.size));clear hb2
  go_wp2_with fail
  go_ret2;exact⟨rfl,B2.o⟩
 cases he;rw[if_pos (by decide)] at hR;subst hR
 go_enter Tryz.func180,Tryz.ntmps180
 go_wp2_with fail
 refine (BA.o _).mono ?_;rintro e w1 ⟨rfl,hb⟩;have B1:=zq (B0.o.trans (hb.mono (by simp)));clear hb
 go_wp2_with fail
 go_ret2;exact⟨rfl,B1.o⟩
end Go.Proofs.YtcepekniflaoaaaGreatDoor
namespace Go.Proofs.YtcepekniflaoaaaGreatDoor
open Go.RowKit Go.Bw Go.Maps Go.Shelf Go.Bw.Fall
theorem qN {L:aH} {a:Nat} {under:Int}:∀ {n:Nat} {m:Int},iF L a under n=some m->aO m=true/\0<=m
 | 0,m,h=>by cases h;exact⟨by decide,by omega⟩
 | n+1,m,h=>by
   have h':((iF L a under n).bind fun w=>(jg L a under n).map fun x=>max w x)=some m:=h;rw[Option.bind_eq_some_iff] at h';obtain⟨y,hy,h2⟩:=h';rw[Option.map_eq_some_iff] at h2;obtain⟨x,hx,rfl⟩:=h2;have h3:=qN hy;have h4:=aF.1 (xE hx);have h5:=aF.1 h3.1;exact⟨aF.2 (by omega),by omega⟩
section
variable {L:aH} {a:Nat}
theorem vM {n:Nat} {u:dX} {r:List dX} {x:Int} (h:iF L a n 21=none):jF L a n (u::r) x=none:=by
 unfold jF;rw[h];rfl
theorem vK {n:Nat} {u:dX} {r:List dX} {x m:Int} (h:iF L a n 21=some m) (h2:nH (L.cur u.cur) m 1=none):jF L a n (u::r) x=none:=by
 unfold jF;rw[h];show (nH (L.cur u.cur) m 1).bind _=none;rw[h2];rfl
theorem vO {n:Nat} {u:dX} {r:List dX} {x m y:Int} (h:iF L a n 21=some m) (h2:nH (L.cur u.cur) m 1=some y) (h3:kC x y=none):jF L a n (u::r) x=none:=by
 unfold jF;rw[h];show (nH (L.cur u.cur) m 1).bind _=none;rw[h2];show (kC x y).bind _=none;rw[h3];rfl
theorem vN {n:Nat} {u:dX} {r:List dX} {x m y z:Int} (h:iF L a n 21=some m) (h2:nH (L.cur u.cur) m 1=some y) (h3:kC x y=some z):jF L a n (u::r) x=jF L a (n+1) r z:=by
 conv=>lhs;unfold jF
 rw[h];show (nH (L.cur u.cur) m 1).bind _=_;rw[h2];show (kC x y).bind _=_;rw[h3];rfl
theorem qF {r:Int×Int} {x:Int} (h:r.2=0/\aO r.1=true\/r=(0,4)) (ho:iG r=some x):aO x=true:=by
 rw[qW] at ho;subst ho;rcases h with h|h
 ·exact h.2
 cases h
theorem yY {r:Int×Int} (h:r.2=0/\aO r.1=true\/r=(0,4)):r.2=0\/r=(0,4):=by
 rcases h with h|h
 ·exact Or.inl h.1
 exact Or.inr h
end
theorem Nw (w:World) (b mb:Nat) (bv:Value) (V:aB) (L:aH) (a:Nat) (hS:dO w b mb bv V L a) (hg:L.Good) :
 Calls Tryz.prog 155 #[.pointer (some ⟨b,0,none⟩)] w (lq w b mb bv V L a (pI L a)):=by
 have HS:=zq hS;have HG:=zq hg;have NB:=zq (show mb<w.heap.size from hS.units.lt);have WS:=zq (fun W (hW:dO W b mb bv V L a) under=>KG W b mb bv V L a hW hg under);obtain⟨a2,c2,e2⟩:=hS.led.ah.form;obtain⟨UN,hUN⟩:=Zn L.ah.length;have d2:=hS.box.at_ 2 _ rfl;rw[e2,<-hUN] at d2;have EV:=zq (show V.ah=.slice a2 UN c2 from by rw[hUN];exact e2);have LU:=zq hUN;have u6:UN<=6:=by have:=hg.things.u1;omega
 obtain⟨R,hR⟩:=Zn (pI L a);have EQ:=zq hR;rw[<-hR];clear hS hg e2 hUN hR
 go_enter Tryz.func155,Tryz.ntmps155
 go_wp2_with fail
 clear d2
 go_loopw [3,12] (fun al i wr=>∃ (k:Nat) (x:Int),k<=UN/\i=.int .i64 k/\al=.int .i64 x/\Hid (aO x=true)/\Turn w wr b mb bv V L a/\Hid (R=jF L a k (L.ah.drop k) x)) (fun _ i _=>UN - (intOf i).toNat)
 case atStart=>exact⟨0,0,Nat.zero_le _,rfl,rfl,zq (by decide),HS.o.here,zq EQ.o⟩
 obtain⟨k,x,hk,rfl,rfl,FX,ht,KEY⟩:=hrel;have TT:=zq ht;clear ht;by_cases hlt:k<UN
 ·obtain⟨u,hu⟩:∃ u,L.ah[k]?=some u:=⟨_,Zg (by have:=LU.o;omega)⟩;have row:RowOf wr 4 dX.cells (.slice a2 UN c2) L.ah:=by have:=TT.o.s.led.ah;rw[EV.o] at this;exact this
  obtain⟨ub,uo,rfl,hbl,hc⟩:=row.at_ hu;have uok:=HG.o.things.ah k u hu;obtain⟨q,hq⟩:∃ q:Nat,u.cur=q:=⟨u.cur.toNat,by have:=uok.2.1;omega⟩;have hql:q<L.aQ.length:=by have:=uok.2.2.1;omega
  obtain⟨c,hcr⟩:∃ c,L.aQ[q]?=some c:=⟨_,List.getElem?_eq_getElem hql⟩;have EC:=zq (show L.cur u.cur=c from by rw[hq];unfold aH.cur;simp[hcr]);have cok:=zq (HG.o.things.aQ q c hcr);have c0:=hc 0 (.string u.name) rfl;have c1:=hc 1 (.int .i64 u.cur) rfl;have c2':=hc 2 (.int .i64 u.price) rfl;have c3:=hc 3 (.int .i64 u.cZ) rfl;rw[Nat.add_zero] at c0;rw[hq] at c1;have DK:=zq (drop_cons hu);have HU:=zq hu;have LT:=zq hlt;have hlt':(k:Int)<(UN:Int):=by omega
  have CC:=zq (show ∀ W,dO W b mb bv V L a->∃ cb co cn cc,V.aQ=.slice (some ⟨cb,co,none⟩) cn cc/\(q:Int)<cn/\W.cell? ⟨b,1,none⟩=some (.slice (some ⟨cb,co,none⟩) cn cc)/\W.cell? ⟨cb,co+q*2,none⟩=some (.int .i64 c.rate)/\W.cell? ⟨cb,co+q*2+1,none⟩=some (.int .i64 c.dL) from by
   intro W hW;obtain⟨a1,c1,e1⟩:=hW.led.aQ.form;have bx:=hW.box;have r1:=hW.led.aQ;rw[e1] at bx r1;obtain⟨cb,co,rfl,_,ic⟩:=r1.at_ hcr;exact⟨cb,co,_,c1,e1,by omega,bx.at_ 1 _ rfl,ic 0 _ rfl,ic 1 _ rfl⟩)
  obtain⟨cb,co,cn,cc,ec,qn,_⟩:=CC.o wr TT.o.s;have CD:=zq (show ∀ W,dO W b mb bv V L a->W.cell? ⟨b,1,none⟩=some (.slice (some ⟨cb,co,none⟩) cn cc)/\W.cell? ⟨cb,co+q*2,none⟩=some (.int .i64 c.rate)/\W.cell? ⟨cb,co+q*2+1,none⟩=some (.int .i64 c.dL) from by
   intro W hW;obtain⟨_,_,_,_,e,_,x1,x2,x3⟩:=CC.o W hW;rw[ec] at e
   cases e
   exact⟨x1,x2,x3⟩)
  have q0:(0:Int)<=(q:Int):=by omega
  have k0:(0:Int)<=(k:Int):=by omega
  clear row hc uok hq hcr hu hbl hql ec hlt CC;obtain⟨W1,hW1⟩:=Zn (wr.alloc (.cells #[.string u.name,.int .i64 (q:Int),.int .i64 u.price,.int .i64 u.cZ] 48));have TB:=zq (show Turn w W1 b mb bv V L a/\aY W1 wr.heap.size #[.string u.name,.int .i64 (q:Int),.int .i64 u.price,.int .i64 u.cZ]/\mb<wr.heap.size from by
   rw[hW1];exact⟨TT.o.low (Zb),aY.new _ _ _,TT.o.s.units.lt⟩)
  go_wp2_with fail
  rw[<-hW1];obtain⟨h5,hh5⟩:=Zn wr.heap.size;rw[<-hh5] at TB ⊢;clear hW1 hh5 c0 c1 c2' c3;have f1:∀ z:dh (fun W=>dO W b mb bv V L a/\aY W h5 #[.string u.name,.int .i64 (q:Int),.int .i64 u.price,.int .i64 u.cZ]),z.w.cell? ⟨b,1,none⟩=some (.slice (some ⟨cb,co,none⟩) cn cc):=fun z=>(CD.o z.w z.ok.1).1
  have f2:∀ z:dh (fun W=>dO W b mb bv V L a/\aY W h5 #[.string u.name,.int .i64 (q:Int),.int .i64 u.price,.int .i64 u.cZ]),z.w.cell? ⟨cb,co+q*2,none⟩=some (.int .i64 c.rate):=fun z=>(CD.o z.w z.ok.1).2.1
  have f3:∀ z:dh (fun W=>dO W b mb bv V L a/\aY W h5 #[.string u.name,.int .i64 (q:Int),.int .i64 u.price,.int .i64 u.cZ]),z.w.cell? ⟨cb,co+q*2+1,none⟩=some (.int .i64 c.dL):=fun z=>(CD.o z.w z.ok.1).2.2
  have f4:∀ z:dh (fun W=>dO W b mb bv V L a/\aY W h5 #[.string u.name,.int .i64 (q:Int),.int .i64 u.price,.int .i64 u.cZ]),z.w.cell? ⟨h5,1,none⟩=some (.int .i64 (q:Int)):=fun z=>z.ok.2.at_ 1 _ rfl
  have TBD:=zq (show Turn w W1.drew b mb bv V L a/\aY W1.drew h5 #[.string u.name,.int .i64 (q:Int),.int .i64 u.price,.int .i64 u.cZ] from ⟨TB.o.1.low ((Mod.refl (fun _=>False) W1).drew).aU,TB.o.2.1.mod ((Mod.refl (fun _=>False) W1).drew) (fun h=>h)⟩);refine aX (C:=fun w'=>∃ z:dh (fun W=>dO W b mb bv V L a/\aY W h5 #[.string u.name,.int .i64 (q:Int),.int .i64 u.price,.int .i64 u.cZ]),w'=z.w) [12,13,16,17,20] [0,1,2,3,4,5,6,7,8,9] (.step 0 (.step 1 (.step 2 (.step 3 (.step 4 (.step 5 (.step 6 (.step 7 (.step 8 (.step 9 (.step 10 (.step 11 (.step 12 (.step 13 (.step 14 (.step 15 (.step 16 (.step 17 (.step 18 (.step 19 (.step 20 (.step 21 .leaf)))))))))))))))))))))) (fun c d w'=>d=[]/\lq w b mb bv V L a R (.panicked c) w') (by kernel_rfl) (fun c a' w' hR=>hR) (by kernel_rfl) ⟨⟨W1.drew,TBD.o.1.s,TBD.o.2⟩,rfl⟩ ?_
  haveI ne:Nonempty (dh (fun W=>dO W b mb bv V L a/\aY W h5 #[.string u.name,.int .i64 (q:Int),.int .i64 u.price,.int .i64 u.cZ])):=⟨⟨W1,TB.o.1.s,TB.o.2.1⟩⟩
  refine bM [0,1,2,3,4,5,6,7,8,9] (by kernel_rfl) ?_
  simp only[ay,nth]
  repeat (go_big_quiet_step (fail))
  refine wpQuiet_nil ?_;clear f1 f2 f3 f4 ne;refine aC [10,11] (by kernel_rfl) ?_
  simp only[ay,nth]
  repeat (go_big_quiet_step (fail))
  refine wpQuiet_nil ?_;refine aK (by kernel_rfl) rfl (fun K hK=>?_)
  simp only[ay,nth]
  refine aA ?_;go_simp;refine (WS.o _ TBD.o.1.s _).mono ?_;rintro e w3 ⟨ho,ht3⟩;have T3:=zq (show Turn w w3 b mb bv V L a/\aY w3 h5 #[.string u.name,.int .i64 (q:Int),.int .i64 u.price,.int .i64 u.cZ] from ⟨TBD.o.1.trans ht3,TBD.o.2.mod ht3.m (by have:=TB.o.2.2;omega)⟩);clear ht3 TBD;rcases Or.symm ho with ⟨hm,rfl⟩|⟨m,hm,rfl⟩
  ·have HM:=zq hm;clear hm;go_simp;exact⟨rfl,jL.none_ (by rw[KEY.o,DK.o];exact vM HM.o),T3.o.1⟩
  have HM:=zq hm;clear hm;have BC:=zq (fun W=>zC c q cok.o m 1 (I64.bU (qN HM.o).1) (by omega) (by omega) W);have ER:=zq (xI m c.rate 1000000 1 (by omega) (by omega) (by omega));have BO:=zq (show nH c m 1=iG (iT m c.rate 1000000 1) from rfl);obtain⟨MR,hMR⟩:=Zn (iT m c.rate 1000000 1);rw[<-hMR] at BC ER BO;clear hMR;go_simp;refine hK _ _ ⟨⟨w3,T3.o.1.s,T3.o.2⟩,rfl⟩ ?_;clear hK;refine aK (by kernel_rfl) rfl (fun K hK=>?_)
  simp only[ay,nth]
  refine aA ?_;go_simp;refine (BC.o _).mono ?_;rintro e w4 ⟨rfl,hb4⟩;have T4:=zq (show Turn w w4 b mb bv V L a/\aY w4 h5 #[.string u.name,.int .i64 (q:Int),.int .i64 u.price,.int .i64 u.cZ] from ⟨T3.o.1.low hb4,T3.o.2.below hb4⟩);clear hb4;go_simp;refine hK _ _ ⟨⟨w4,T4.o.1.s,T4.o.2⟩,rfl⟩ ?_;clear hK;refine aC [14,15] (by kernel_rfl) ?_
  simp only[ay,nth]
  repeat (go_big_quiet_step (fail))
  refine wpQuiet_nil ?_;refine aK (by kernel_rfl) rfl (fun K hK=>?_)
  simp only[ay,nth]
  refine aA ?_;go_simp;refine (jc MR (yY ER.o) _).mono ?_;rintro e w' ⟨ho,rfl⟩;rcases Or.symm ho with ⟨hy,rfl⟩|⟨y,hy,rfl⟩
  ·have HY:=zq (BO.o.trans hy);clear hy;go_simp;exact⟨rfl,jL.none_ (by rw[KEY.o,DK.o];exact vK HM.o (by rw[EC.o];exact HY.o)),T4.o.1⟩
  have FY:=zq (qF ER.o hy);have HY:=zq (BO.o.trans hy);clear hy;have AC:=zq (fun W=>lZ x y (I64.bU FX.o) (I64.bU FY.o) W);have AE:=zq (qQ x y);have AO:=zq (show kC x y=iG (dQ x y) from rfl);obtain⟨AR,hAR⟩:=Zn (dQ x y);rw[<-hAR] at AC AE AO;clear hAR;go_simp;refine hK _ _ ⟨⟨w4,T4.o.1.s,T4.o.2⟩,rfl⟩ ?_;clear hK;refine aK (by kernel_rfl) rfl (fun K hK=>?_)
  simp only[ay,nth]
  refine aA ?_;go_simp;refine (AC.o _).mono ?_;rintro e w' ⟨rfl,rfl⟩;go_simp;refine hK _ _ ⟨⟨w4,T4.o.1.s,T4.o.2⟩,rfl⟩ ?_;clear hK;refine aC [18,19] (by kernel_rfl) ?_
  simp only[ay,nth]
  repeat (go_big_quiet_step (fail))
  refine wpQuiet_nil ?_;refine aK (by kernel_rfl) rfl (fun K hK=>?_)
  simp only[ay,nth]
  refine aA ?_;go_simp;refine (jc AR (yY AE.o) _).mono ?_;rintro e w' ⟨ho,rfl⟩;rcases Or.symm ho with ⟨hz,rfl⟩|⟨z,hz,rfl⟩
  ·have HZ:=zq (AO.o.trans hz);clear hz;go_simp;exact⟨rfl,jL.none_ (by rw[KEY.o,DK.o];exact vO HM.o (by rw[EC.o];exact HY.o) HZ.o),T4.o.1⟩
  have FZ:=zq (qF AE.o hz);have HZ:=zq (AO.o.trans hz);clear hz;go_simp;refine hK _ _ ⟨⟨w4,T4.o.1.s,T4.o.2⟩,rfl⟩ ?_;clear hK;refine aC [21] (by kernel_rfl) ?_
  simp only[ay,nth]
  repeat (go_big_quiet_step (fail))
  refine wpQuiet_nil ?_;refine bH ?_
  go_wp2_with fail
  go_roundw
  case rel=>exact⟨k+1,z,by have:=LT.o;omega,by go_num,rfl,FZ,T4.o.1,zq (by rw[KEY.o,DK.o];exact vN HM.o (by rw[EC.o];exact HY.o) HZ.o)⟩
  case measure=>have:=LT.o;simp[intOf];omega
 have hlt':¬ (k:Int)<(UN:Int):=by omega
 go_wp2_with fail
 go_ret;exact⟨jL.some_ (by rw[KEY.o,List.drop_of_length_le (by have:=LU.o;omega)];rfl),TT.o⟩
end Go.Proofs.YtcepekniflaoaaaGreatDoor
namespace Go.Proofs.YtcepekniflaoaaaGreatDoor
open Go.RowKit Go.Bw Go.Maps Go.Shelf Go.Bw.Fall
section
variable {L:aH} {a:Nat}
theorem uY {n:Nat} {p:Acc} {r:List Acc} {x:Int} (h:kC x (p.aT.getD n 0)=none):iU n (p::r) x=none:=by
 unfold iU;rw[h];rfl
theorem uX {n:Nat} {p:Acc} {r:List Acc} {x y:Int} (h:kC x (p.aT.getD n 0)=some y):iU n (p::r) x=iU n r y:=by
 conv=>lhs;unfold iU
 rw[h];rfl
theorem vC {n:Nat} {c:gu} {r:List gu} {x:Int} (h:iU n (L.under a) 0=none):jD L a n (c::r) x=none:=by
 unfold jD;rw[h];rfl
theorem vz {n:Nat} {c:gu} {r:List gu} {x m:Int} (h:iU n (L.under a) 0=some m) (h2:mM c m=none):jD L a n (c::r) x=none:=by
 unfold jD;rw[h];show (mM c m).bind _=none;rw[h2];rfl
theorem vG {n:Nat} {c:gu} {r:List gu} {x m y:Int} (h:iU n (L.under a) 0=some m) (h2:mM c m=some y) (h3:kC x y=none):jD L a n (c::r) x=none:=by
 unfold jD;rw[h];show (mM c m).bind _=none;rw[h2];show (kC x y).bind _=none;rw[h3];rfl
theorem vF {n:Nat} {c:gu} {r:List gu} {x m y z:Int} (h:iU n (L.under a) 0=some m) (h2:mM c m=some y) (h3:kC x y=some z):jD L a n (c::r) x=jD L a (n+1) r z:=by
 conv=>lhs;unfold jD
 rw[h];show (mM c m).bind _=_;rw[h2];show (kC x y).bind _=_;rw[h3];rfl
end
theorem LV (w:World) (b mb:Nat) (bv:Value) (V:aB) (L:aH) (a:Nat) (hS:dO w b mb bv V L a) (hg:L.Good) :
 Calls Tryz.prog 153 #[.pointer (some ⟨b,0,none⟩)] w (lq w b mb bv V L a (vH L a)):=by
 have HS:=zq hS;have HG:=zq hg;obtain⟨a1,c1,e1⟩:=hS.led.aQ.form;obtain⟨a4,c4,e4⟩:=hS.led.ai.form;obtain⟨vb,cb,eb⟩:=hS.below.form;obtain⟨CN,hCN⟩:=Zn L.aQ.length;obtain⟨AN,hAN⟩:=Zn V.ac.length;obtain⟨BN,hBN⟩:=Zn ((ints (gI L.parents a)).length);have d1:=hS.box.at_ 1 _ rfl;rw[e1,<-hCN] at d1;have EV:=zq (show V.aQ=.slice a1 CN c1/\V.ai=.slice a4 AN c4/\bv=.slice vb BN cb from ⟨by rw[hCN];exact e1,by rw[hAN];exact e4,by rw[hBN];exact eb⟩);have LC:=zq hCN;have LA:=zq (show AN=V.ac.length/\L.ai.length=V.ac.length from ⟨hAN,by have:=hS.led.same;rw[this,List.length_map]⟩);have LB:=zq hBN;have bl:BN<=16:=by
  rw[hBN];unfold ints;rw[List.length_map];have h1:(gI L.parents a).length<=(List.range L.parents.length).length:=List.length_filter_le _ _;rw[List.length_range] at h1;have:=hg.accounts.tree.hi;unfold aH.parents at h1 ⊢;omega
 have cl:CN<=4:=by have:=hg.things.c1;omega
 have al:AN<=16:=by
  have:=hg.accounts.tree.hi;have h2:=LA.o
  simp only[List.length_map] at this
  omega
 obtain⟨R,hR⟩:=Zn (vH L a);have EQ:=zq hR;rw[<-hR];clear hS hg e1 e4 eb hCN hAN hBN hR
 go_enter Tryz.func153,Tryz.ntmps153
 go_wp2_with fail
 clear d1
 go_loopw [3,15] (fun av i wr=>∃ (k:Nat) (x:Int),k<=CN/\i=.int .i64 k/\av=.int .i64 x/\Hid (aO x=true)/\Turn w wr b mb bv V L a/\Hid (R=jD L a k (L.aQ.drop k) x)) (fun _ i _=>CN - (intOf i).toNat)
 case atStart=>exact⟨0,0,Nat.zero_le _,rfl,rfl,zq (by decide),HS.o.here,zq EQ.o⟩
 obtain⟨k,x,hk,rfl,rfl,FX,ht,KEY⟩:=hrel;have TT:=zq ht;clear ht;by_cases hlt:k<CN
 ·obtain⟨c,hc⟩:∃ c,L.aQ[k]?=some c:=⟨_,Zg (by have:=LC.o;omega)⟩;have row:RowOf wr 2 gu.cells (.slice a1 CN c1) L.aQ:=by have:=TT.o.s.led.aQ;rw[EV.o.1] at this;exact this
  obtain⟨qb,qo,rfl,hbl,hcc⟩:=row.at_ hc;have c0:=hcc 0 (.int .i64 c.rate) rfl;have c1':=hcc 1 (.int .i64 c.dL) rfl;rw[Nat.add_zero] at c0;have COK:=zq (HG.o.things.aQ k c hc);have DK:=zq (drop_cons hc);have LT:=zq hlt;have HK:=zq (show k<L.aQ.length from by have:=LC.o;omega);have hlt':(k:Int)<(CN:Int):=by omega
  clear row hc hcc hbl hlt hk;obtain⟨W1,hW1⟩:=Zn (wr.alloc (.cells #[.int .i64 c.rate,.int .i64 c.dL] 86));have TB:=zq (show Turn w W1 b mb bv V L a/\aY W1 wr.heap.size #[.int .i64 c.rate,.int .i64 c.dL]/\W1.cell? ⟨b,9,none⟩=some (.slice vb BN cb) from by
   rw[hW1];have T:=TT.o.low ((Below.refl _ _).alloc (Nat.le_refl _) (.cells #[.int .i64 c.rate,.int .i64 c.dL] 86));refine⟨T,aY.new _ _ _,?_⟩;have:=T.s.box.at_ 9 _ rfl;rw[EV.o.2.2] at this;exact this)
  have d9:=TB.o.2.2;rw[hW1] at d9;obtain⟨wo,rfl⟩:=Zn wr
  go_wp2_with fail
  rw[<-hW1] at d9 ⊢;obtain⟨h5,hh5⟩:=Zn wo.heap.size;rw[<-hh5] at TB ⊢;clear hW1 hh5 c0 c1' d9;have k0:(0:Int)<=(k:Int):=by omega
  go_loopw [6,25] (fun cv i wr=>∃ (n:Nat) (y:Int),n<=BN/\i=.int .i64 n/\cv=.int .i64 y/\Hid (aO y=true)/\Turn w wr b mb bv V L a/\aY wr h5 #[.int .i64 c.rate,.int .i64 c.dL]/\Hid (iU k (L.under a) 0=iU k ((L.under a).drop n) y)) (fun _ i _=>BN - (intOf i).toNat)
  case atStart=>exact⟨0,0,Nat.zero_le _,rfl,rfl,zq (by decide),TB.o.1,TB.o.2.1,zq rfl⟩
  obtain⟨n,y,hn,rfl,rfl,FY,ht,hbx,KEI⟩:=hrel;have TI:=zq (And.intro ht hbx);clear ht hbx;by_cases hlt2:n<BN
  ·obtain⟨v,hv⟩:∃ v,(gI L.parents a)[n]?=some v:=⟨_,Zg (by have:=LB.o;unfold ints at this;rw[List.length_map] at this;omega)⟩;have hvi:(ints (gI L.parents a))[n]?=some (v:Int):=by unfold ints;rw[List.getElem?_map,hv];rfl
   have rowb:RowOf wr 1 dw (.slice vb BN cb) (ints (gI L.parents a)):=by have:=TI.o.1.s.below;rw[EV.o.2.2] at this;exact this
   obtain⟨bb,bo,rfl,_,hbc⟩:=rowb.at_ hvi;have b0:=hbc 0 (.int .i64 (v:Int)) rfl;rw[Nat.add_zero,Nat.mul_one] at b0;have hvl:v<V.ac.length:=by
    have h1:=(rO.1 (List.mem_of_getElem? hv)).1;unfold aH.parents at h1;rw[List.length_map] at h1;have:=LA.o.2;omega
   obtain⟨p,hp⟩:∃ p,V.ac[v]?=some p:=⟨_,List.getElem?_eq_getElem hvl⟩;have hpl:L.ai[v]?=some p.1:=by rw[HS.o.led.same,List.getElem?_map,hp];rfl
   have aok:=HG.o.accounts.ai v p.1 hpl;have rowa:RowOf wr 4 Acc.cells (.slice a4 AN c4) V.ac:=by have:=TI.o.1.s.led.ai;rw[EV.o.2.1] at this;exact this
   obtain⟨ab,ao,rfl,_,hac⟩:=rowa.at_ hp;have rowc:=TI.o.1.s.led.aT p (List.mem_of_getElem? hp);obtain⟨a7,c7,e7⟩:=rowc.form;obtain⟨z,hz⟩:∃ z,p.1.aT[k]?=some z:=⟨_,Zg (by have:=aok.1;have:=HK.o;omega)⟩;rw[e7] at rowc;obtain⟨kb,ko,rfl,_,hkc⟩:=rowc.at_ hz;have z0:=hkc 0 (.int .i64 z) rfl;rw[Nat.add_zero,Nat.mul_one] at z0;have a1c:=hac 1 p.2 rfl;rw[e7] at a1c;have d4:wr.cell? ⟨b,4,none⟩=some (.slice (some ⟨ab,ao,none⟩) AN c4):=by have:=TI.o.1.s.box.at_ 4 _ rfl;rw[EV.o.2.1] at this;exact this
   have kl:(k:Int)<(p.1.aT.length:Int):=by have:=aok.1;have:=HK.o;omega
   have vl:(v:Int)<(AN:Int):=by have:=LA.o.1;omega
   have v0:(0:Int)<=(v:Int):=by omega
   have ZF:=zq (show aO z=true from aok.2.2.2.2 z (List.mem_of_getElem? hz));have UK:=zq (show (L.under a)[n]?=some p.1/\p.1.aT.getD k 0=z from by
    refine⟨?_,by rw[List.getD_eq_getElem?_getD,hz];rfl⟩;unfold aH.under;rw[List.getElem?_map,hv]
    show some (L.ai.getD v _)=_
    rw[List.getD_eq_getElem?_getD,hpl];rfl)
   have AC:=zq (fun W=>lZ y z (I64.bU FY.o) (I64.bU ZF.o) W);have AE:=zq (qQ y z);have AO:=zq (show kC y z=iG (dQ y z) from rfl);obtain⟨AR,hAR⟩:=Zn (dQ y z);rw[<-hAR] at AC AE AO;obtain⟨KN,hKN⟩:=Zn p.1.aT.length;rw[<-hKN] at kl a1c;have DN:=zq (drop_cons UK.o.1);have LT2:=zq hlt2;have hlt2':(n:Int)<(BN:Int):=by omega
   clear hAR hKN hv hvi rowb hbc hvl hp hpl aok rowa hac rowc e7 hz hkc hlt2 hn
   go_wp2_with fail
   refine (AC.o _).mono ?_;rintro e w' ⟨rfl,rfl⟩
   go_wp2_with fail
   refine (jc AR (yY AE.o) _).mono ?_;rintro e w' ⟨ho,rfl⟩;rcases Or.symm ho with ⟨hz,rfl⟩|⟨g,hz,rfl⟩
   ·have HZ:=zq (AO.o.trans hz);clear hz
    go_wp2_with fail
    exact⟨rfl,jL.none_ (by rw[KEY.o,DK.o];exact vC (by rw[KEI.o,DN.o];exact uY (by rw[UK.o.2];exact HZ.o))),TI.o.1⟩
   have FZ:=zq (qF AE.o hz);have HZ:=zq (AO.o.trans hz);clear hz
   go_wp2_with fail
   go_roundw
   case rel=>exact⟨n+1,g,by have:=LT2.o;omega,by go_num,rfl,FZ,TI.o.1,TI.o.2,zq (by rw[KEI.o,DN.o];exact uX (by rw[UK.o.2];exact HZ.o))⟩
   case measure=>have:=LT2.o;simp[intOf];omega
  have hlt2':¬ (n:Int)<(BN:Int):=by omega
  have CG:=zq (show iU k (L.under a) 0=some y from by
   rw[KEI.o,List.drop_of_length_le (by have:=LB.o;unfold aH.under;unfold ints at this;rw[List.length_map] at this ⊢;omega)];rfl)
  have WC:=zq (fun W=>Gh c k COK.o y (I64.bU FY.o) W);have WE:=zq (zM c y);have WO:=zq (yt c y);obtain⟨WR,hWR⟩:=Zn (jh c y);rw[<-hWR] at WC WE WO;have f0:wr.cell? ⟨h5,0,none⟩=some (.int .i64 c.rate):=TI.o.2.at_ 0 _ rfl;have f1:wr.cell? ⟨h5,1,none⟩=some (.int .i64 c.dL):=TI.o.2.at_ 1 _ rfl;clear hWR hlt2 hn
  go_wp2_with fail
  refine (WC.o _).mono ?_;rintro e w4 ⟨rfl,hb4⟩;have T4:=zq (TI.o.1.low hb4);clear hb4 f0 f1
  go_wp2_with fail
  refine (jc WR (yY WE.o) _).mono ?_;rintro e w' ⟨ho,rfl⟩;rcases Or.symm ho with ⟨hy,rfl⟩|⟨m,hy,rfl⟩
  ·have HY:=zq (WO.o.trans hy);clear hy
   go_wp2_with fail
   exact⟨rfl,jL.none_ (by rw[KEY.o,DK.o];exact vz CG.o HY.o),T4.o⟩
  have FM:=zq (qF WE.o hy);have HY:=zq (WO.o.trans hy);clear hy;have AC:=zq (fun W=>lZ x m (I64.bU FX.o) (I64.bU FM.o) W);have AE:=zq (qQ x m);have AO:=zq (show kC x m=iG (dQ x m) from rfl);obtain⟨AR,hAR⟩:=Zn (dQ x m);rw[<-hAR] at AC AE AO;clear hAR
  go_wp2_with fail
  refine (AC.o _).mono ?_;rintro e w' ⟨rfl,rfl⟩
  go_wp2_with fail
  refine (jc AR (yY AE.o) _).mono ?_;rintro e w' ⟨ho,rfl⟩;rcases Or.symm ho with ⟨hz,rfl⟩|⟨z,hz,rfl⟩
  ·have HZ:=zq (AO.o.trans hz);clear hz
   go_wp2_with fail
   exact⟨rfl,jL.none_ (by rw[KEY.o,DK.o];exact vG CG.o HY.o HZ.o),T4.o⟩
  have FZ:=zq (qF AE.o hz);have HZ:=zq (AO.o.trans hz);clear hz
  go_wp2_with fail
  go_roundw
  case rel=>exact⟨k+1,z,by have:=LT.o;omega,by go_num,rfl,FZ,T4.o,zq (by rw[KEY.o,DK.o];exact vF CG.o HY.o HZ.o)⟩
  case measure=>have:=LT.o;simp[intOf];omega
 have hlt':¬ (k:Int)<(CN:Int):=by omega
 go_wp2_with fail
 go_ret;exact⟨jL.some_ (by rw[KEY.o,List.drop_of_length_le (by have:=LC.o;omega)];rfl),TT.o⟩
end Go.Proofs.YtcepekniflaoaaaGreatDoor
