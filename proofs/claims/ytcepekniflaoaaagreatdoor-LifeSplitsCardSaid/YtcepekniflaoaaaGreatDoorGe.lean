/- Joined: LedM, Gen, Tree, TreeC, RefN, OptA, OptV, OptU, GridP, Thing, Named, GridU, TreeB, LedO. -/
import Derived.Test.YtcepekniflaoaaaGreatDoorGa
import Derived.Test.YtcepekniflaoaaaGreatDoorGb
import Derived.Test.YtcepekniflaoaaaGreatDoorGc
import Derived.Shelf.Abstract
import Derived.Laws.MakeOwn
import Derived.Lib.SlTrimSet
import Derived.Defers
import Derived.Recover
import Derived.Laws.Pointers
import Derived.Test.YtcepekniflaoaaaGreatDoorMLib
import Derived.Laws.CopyOwn
set_option linter.unusedVariables false
set_option linter.unusedSimpArgs false
set_option maxRecDepth 100000
set_option maxHeartbeats 4000000
namespace Go.Bw
open Go.RowKit
structure RowOf {α:Type} (w:World) (n:Nat) (f:α->List Value) (v:Value) (l:List α):Prop where
 ex:∃ a c,v=.slice a l.length c/\l.length<=c/\c<=maxLen/\(a=none->c=0) /\
  ∀ (i:Nat) (x:α),l[i]?=some x->∃ b o,a=some ⟨b,o,none⟩/\b<w.heap.size/\∀ j u,(f x)[j]?=some u->w.cell? ⟨b,o+i*n+j,none⟩=some u
variable {α:Type} {w w':World} {n:Nat} {f:α->List Value} {v:Value} {l:List α}
theorem RowOf.form (h:RowOf w n f v l):∃ a c,v=.slice a l.length c:=by obtain⟨a,c,h,_⟩:=h.ex;exact⟨a,c,h⟩
theorem RowOf.caps {a:Option Addr} {m c:Nat} (h:RowOf w n f (.slice a m c) l):m=l.length/\l.length<=c/\c<=maxLen/\(a=none->c=0):=by
 obtain⟨a',c',e,h1,h2,h3,_⟩:=h.ex
 cases e
 exact⟨rfl,h1,h2,h3⟩
theorem RowOf.at_ {a:Option Addr} {m c:Nat} (h:RowOf w n f (.slice a m c) l) {k:Nat} {x:α} (hx:l[k]?=some x) :
 ∃ b o,a=some ⟨b,o,none⟩/\b<w.heap.size/\∀ j u,(f x)[j]?=some u->w.cell? ⟨b,o+k*n+j,none⟩=some u:=by
 obtain⟨a',c',e,_,_,_,h4⟩:=h.ex
 cases e
 exact h4 k x hx
theorem RowOf.mod {S:Nat->Prop} (h:RowOf w n f v l) (hm:Mod S w w') (hS:∀ k,k<w.heap.size->¬ S k):RowOf w' n f v l:=by
 obtain⟨a,c,h1,h2,h3,h4,h5⟩:=h.ex;refine⟨a,c,h1,h2,h3,h4,fun i x hi=>?_⟩;obtain⟨b,o,e,hb,hc⟩:=h5 i x hi;exact⟨b,o,e,Nat.lt_of_lt_of_le hb hm.size,fun j u hj=>hm.cell (hc j u hj) (hS b hb)⟩
theorem RowOf.kept {S:Nat->Prop} (h:RowOf w n f v l) (hm:Mod S w w') (hS:∀ k,v.ownBlock=some k->¬ S k):RowOf w' n f v l:=by
 obtain⟨a,c,h1,h2,h3,h4,h5⟩:=h.ex;refine⟨a,c,h1,h2,h3,h4,fun i x hi=>?_⟩;obtain⟨b,o,e,hb,hc⟩:=h5 i x hi;exact⟨b,o,e,Nat.lt_of_lt_of_le hb hm.size,fun j u hj=>hm.cell (hc j u hj) (hS b (by rw[h1,e];rfl))⟩
theorem RowOf.below (h:RowOf w n f v l) (hb:Below w.heap.size w w'):RowOf w' n f v l:=h.mod (Mod.of_below hb) (fun _ _ h=>h)
theorem RowOf.reads (h:RowOf w n f v l) (hf:∀ x,(f x).length=n):Reads w n v l.length (l.flatMap f):=by
 obtain⟨a,c,h1,h2,h3,h4,h5⟩:=h.ex;have hlen:(l.flatMap f).length=l.length*n:=by
  clear h5 h1 h2 h
  induction l with
  | nil=>simp
  | cons x r ih=>rw[List.flatMap_cons,List.length_append,hf,ih,List.length_cons,Nat.succ_mul,Nat.add_comm]
 refine⟨hlen,?_⟩
 cases l with
 | nil =>
   cases a with
   | none=>exact Or.inl ⟨c,h1,rfl⟩
   | some a=>exact Or.inr ⟨a,c,h1,fun j u hj=>by simp at hj⟩
 | cons x r =>
   obtain⟨b,o,e,_,_⟩:=h5 0 x rfl;subst e;refine Or.inr ⟨_,_,h1,fun j u hj=>?_⟩;have hj':=(List.getElem?_eq_some_iff.1 hj).1;rw[hlen] at hj';have hn:0<n:=by
    rcases Nat.eq_zero_or_pos n with h0|h0
    ·subst h0;simp at hj'
    exact h0
   have hi:j / n<(x::r).length:=by rw[Nat.div_lt_iff_lt_mul hn];exact hj'
   obtain⟨b',o',e',_,hc⟩:=h5 (j / n) _ (List.getElem?_eq_getElem hi)
   cases e'
   have hfl:∀ (l:List α) (i:Nat) (j:Nat) (hi:i<l.length),j<n->(l.flatMap f)[i*n+j]?=(f l[i])[j]?:=by
    intro l
    induction l with
    | nil=>intro i j hi;simp at hi
    | cons y t ih =>
      intro i j hi hjn
      cases i with
      | zero=>simp only[List.flatMap_cons,Nat.zero_mul,Nat.zero_add];rw[List.getElem?_append_left (by rw[hf];exact hjn)];rfl
      | succ i =>
        simp only[List.flatMap_cons]
        rw[List.getElem?_append_right (by rw[hf,Nat.add_mul];omega),hf,show (i+1)*n+j - n=i*n+j by rw[Nat.add_mul];omega];exact ih i j (by simpa using hi) hjn
   have hdm:j=j / n*n+j % n:=by have:=Nat.div_add_mod j n;rw[Nat.mul_comm] at this;exact this.symm
   rw[add_plain,hdm,<-Nat.add_assoc];refine hc (j % n) u ?_;rw[<-hfl (x::r) (j / n) (j % n) hi (Nat.mod_lt _ hn),<-hdm];exact hj
def dw (x:Int):List Value:=[.int .i64 x]
def gu.cells (c:gu):List Value:=[.int .i64 c.rate,.int .i64 c.dL]
def dX.cells (u:dX):List Value:=[.string u.name,.int .i64 u.cur,.int .i64 u.price,.int .i64 u.cZ]
def Ins.cells (i:Ins):List Value:=[.int .i64 i.kind,.int .i64 i.under,.int .i64 i.mult,.int .i64 i.strike,.int .i64 i.aN,.bool i.call,.int .i64 i.mark]
def Acc.cells (p:Acc×Value):List Value:=[.int .i64 p.1.parent,p.2,.bool p.1.flag,.int .i64 p.1.last]
def Pos.cells (p:Pos):List Value:=[.int .i64 p.ak,.int .i64 p.instr,.int .i64 p.qty]
def Ord.cells (o:Ord):List Value:=[.int .i64 o.ak,.int .i64 o.id,.int .i64 o.instr,.int .i64 o.qty,.int .i64 o.price]
structure aB where
 aQ:Value
 ah:Value
 af:Value
 ai:Value
 au:Value
 orders:Value
 aG:Value
 aJ:Value
 ac:List (Acc×Value)
def aB.cells (V:aB) (l:aH):Array Value:=#[.int .i64 l.day,V.aQ,V.ah,V.af,V.ai,V.au,V.orders,V.aG,V.aJ]
def aB.val (V:aB) (l:aH):Value:=.agg (V.cells l)
structure bK (w:World) (V:aB) (l:aH):Prop where
 aQ:RowOf w 2 gu.cells V.aQ l.aQ
 ah:RowOf w 4 dX.cells V.ah l.ah
 af:RowOf w 7 Ins.cells V.af l.af
 same:l.ai=V.ac.map (·.1)
 ai:RowOf w 4 Acc.cells V.ai V.ac
 aT:∀ p∈V.ac,RowOf w 1 dw p.2 p.1.aT
 au:RowOf w 3 Pos.cells V.au l.au
 orders:RowOf w 5 Ord.cells V.orders l.orders
 aG:RowOf w 1 dw V.aG l.aG
 aJ:RowOf w 3 Pos.cells V.aJ l.aJ
 names:∀ u∈l.ah,u.name.size<=maxLen
 nums:∀ a∈l.ai,∀ x∈a.aT,-9223372036854775808<=x/\x<=9223372036854775807
theorem bK.mod {V:aB} {l:aH} {S:Nat->Prop} (h:bK w V l) (hm:Mod S w w') (hS:∀ k,k<w.heap.size->¬ S k):bK w' V l :=
 ⟨h.aQ.mod hm hS,h.ah.mod hm hS,h.af.mod hm hS,h.same,h.ai.mod hm hS,fun p hp=>(h.aT p hp).mod hm hS,h.au.mod hm hS,h.orders.mod hm hS,h.aG.mod hm hS,h.aJ.mod hm hS,h.names,h.nums⟩
theorem bK.below {V:aB} {l:aH} (h:bK w V l) (hb:Below w.heap.size w w'):bK w' V l:=h.mod (Mod.of_below hb) (fun _ _ h=>h)
def jS (p:α->Bool) (l:List α):Int:=match l.findIdx? p with|some i=>(i:Int)|none=>-1
theorem nR {p:α->Bool} {l:List α} {k:Nat} {x:α} (h:∀ (j:Nat) y,j<k->l[j]?=some y->p y=false) (hk:l[k]?=some x) (hp:p x=true):jS p l=k:=by
 have hkl:=(List.getElem?_eq_some_iff.1 hk).1;have:l.findIdx? p=some k:=by
  rw[List.findIdx?_eq_some_iff_getElem];refine⟨hkl,by rw[(List.getElem?_eq_some_iff.1 hk).2];exact hp,fun j hj=>?_⟩;have:=h j _ hj (Zg (by omega));simp[this]
 unfold jS;rw[this]
theorem lK {p:α->Bool} {l:List α} (h:∀ (j:Nat) y,j<l.length->l[j]?=some y->p y=false):jS p l=-1:=by
 have:l.findIdx? p=none:=by
  rw[List.findIdx?_eq_none_iff];intro x hx;obtain⟨j,hj,e⟩:=List.mem_iff_getElem.1 hx;subst e;exact h j _ hj (List.getElem?_eq_getElem hj)
 unfold jS;rw[this]
theorem l9 (p:α->Bool) (l:List α):decide (0<=jS p l)=l.any p:=by
 unfold jS
 cases h:l.findIdx? p with
 | none =>
   rw[List.findIdx?_eq_none_iff] at h
   simp only[Int.reduceNeg]
   symm
   rw[Zf (by omega),List.any_eq_false];intro x hx;simp[h x hx]
 | some i =>
   simp only
   rw[decide_eq_true (by omega)]
   symm
   rw[List.findIdx?_eq_some_iff_getElem] at h;obtain⟨hi,hp,_⟩:=h;exact List.any_eq_true.2 ⟨l[i],List.getElem_mem _,hp⟩
end Go.Bw
namespace Go.Proofs.YtcepekniflaoaaaGreatDoor
open Go.RowKit Go.Bw Go.Maps Go.Shelf
def oG (a b:Int):Int:=if a<b then -1 else if b<a then 1 else 0
theorem Iw (x:Int) (w:World):Calls Tryz.prog 189 #[.int .i64 x] w fun e w'=>e=.returned (.bool false)/\w=w':=by
 go_enter Tryz.func189,Tryz.ntmps189
 go_wp2_with fail
 go_ret;exact⟨aj (by simp),rfl⟩
theorem zV (a b:Int) (w:World):Calls Tryz.prog 171 #[.int .i64 a,.int .i64 b] w fun e w'=>e=.returned (.int .i64 (oG a b))/\w=w':=by
 have three:(a<b/\oG a b=-1)\/(¬ a<b/\b<a/\oG a b=1)\/(¬ a<b/\¬ b<a/\oG a b=0):=by
  unfold oG;by_cases h1:a<b
  ·exact Or.inl ⟨h1,if_pos h1⟩
  by_cases h2:b<a
  ·exact Or.inr (Or.inl ⟨h1,h2,by rw[if_neg h1,if_pos h2]⟩)
  exact Or.inr (Or.inr ⟨h1,h2,by rw[if_neg h1,if_neg h2]⟩)
 obtain⟨r,hr⟩:=Zn (oG a b);rw[<-hr] at three ⊢;clear hr;rcases three with ⟨h1,rfl⟩|⟨h1,h2,rfl⟩|⟨h1,h2,rfl⟩
 all_goals
  go_enter Tryz.func171,Tryz.ntmps171
  go_wp2_with fail
  refine (Iw a _).mono ?_;rintro e w' ⟨rfl,rfl⟩
  go_wp2_with fail
  refine (Iw b _).mono ?_;rintro e w' ⟨rfl,rfl⟩
  go_wp2_with fail
  go_ret;exact⟨rfl,rfl⟩
theorem uF (w:World) (b:Nat) (x y:Int) (h0:w.cell? ⟨b,0,none⟩=some (.int .i64 x)) (h1:w.cell? ⟨b,1,none⟩=some (.int .i64 y)) :
 Calls Tryz.prog 170 #[.slice (some ⟨b,0,none⟩) 2 2] w fun e w'=>e=.returned (.int .i64 (if x≠0 then x else y))/\w=w':=by
 obtain⟨R,hR⟩:=Zn ((if x≠0 then x else y));rw[<-hR];have HR:=zq hR;have H0:=zq h0;have H1:=zq h1;clear hR h0 h1
 go_enter Tryz.func170,Tryz.ntmps170
 go_wp2_with fail
 go_loop [8] (fun i=>i=.int .i64 0\/(i=.int .i64 1/\x=0)\/(i=.int .i64 2/\x=0/\y=0)) (fun i=>2 - (intOf i).toNat)
 case atStart=>exact Or.inl rfl
 rcases hrel with rfl|⟨rfl,hx⟩|⟨rfl,hx,hy⟩
 ·have c0:=H0.o;by_cases hx:x=0
  ·have hb:(x != 0)=false:=by simp[hx]
   have X:=zq hx;clear hx
   go_wp2_with fail
   go_round
   case rel=>exact Or.inr (Or.inl ⟨rfl,X.o⟩)
   case measure=>first|(simp[intOf];done)|(simp[intOf];omega)
  have hb:(x != 0)=true:=by simp[hx]
  have X:=zq (HR.o.trans (if_pos hx));clear hx
  go_wp2_with fail
  go_ret;exact⟨gQ X.o.symm,rfl⟩
 ·have c0:=H1.o;have X:=zq (HR.o.trans (if_neg (by simp[hx])));have X0:=zq hx;clear hx;by_cases hy:y=0
  ·have hb:(y != 0)=false:=by simp[hy]
   have Y:=zq hy;clear hy
   go_wp2_with fail
   go_round
   case rel=>exact Or.inr (Or.inr ⟨rfl,X0.o,Y.o⟩)
   case measure=>first|(simp[intOf];done)|(simp[intOf];omega)
  have hb:(y != 0)=true:=by simp[hy]
  clear hy
  go_wp2_with fail
  go_ret;exact⟨gQ X.o.symm,rfl⟩
 have X:=zq (HR.o.trans (if_neg (by simp[hx])));have Y:=zq hy;clear hx hy
 go_wp2_with fail
 go_ret;exact⟨gQ (by rw[X.o,Y.o]),rfl⟩
theorem Jy (w:World) (v:Value) (l:List Int) (y:Int) (hR:RowOf w 1 dw v l) :
 Calls Tryz.prog 206 #[v,.int .i64 y] w fun e w'=>e=.returned (.int .i64 (jS (fun x=>decide (y=x)) l))/\w=w':=by
 obtain⟨a,c,rfl⟩:=hR.form;have hl:l.length<=9223372036854775807:=by have:=hR.caps;unfold maxLen at this;omega
 obtain⟨R,hRr⟩:∃ R,R=jS (fun x=>decide (y=x)) l:=⟨_,rfl⟩;rw[<-hRr];have EQ:=zq hRr;have HR:=zq hR;clear hR hRr
 go_enter Tryz.func206,Tryz.ntmps206
 go_wp2_with fail
 go_loop [8] (fun i=>∃ k:Nat,k<=l.length/\i=.int .i64 k/\Hid (∀ (j:Nat) x,j<k->l[j]?=some x->decide (y=x)=false)) (fun i=>l.length - (intOf i).toNat)
 case atStart=>exact⟨0,Nat.zero_le _,rfl,zq (fun j x hj=>absurd hj (Nat.not_lt_zero _))⟩
 obtain⟨k,hk,rfl,INV⟩:=hrel;by_cases hlt:k<l.length
 ·obtain⟨x,hx⟩:∃ x,l[k]?=some x:=⟨_,List.getElem?_eq_getElem hlt⟩;obtain⟨b,o,rfl,_,hc⟩:=HR.o.at_ hx;have c0:=hc 0 (.int .i64 x) rfl;rw[Nat.mul_one,Nat.add_zero] at c0;have hlt':(k:Int)<(l.length:Int):=by omega
  have HX:=zq hx;clear hx hc;by_cases hy:y=x
  ·have hb:(y==x)=true:=by simp[hy]
   have HY:=zq hy;clear hy
   go_wp2_with fail
   go_ret;exact⟨gQ (by rw[EQ.o,nR INV.o HX.o (decide_eq_true HY.o)]),rfl⟩
  have hb:(y==x)=false:=by simp[hy]
  have HY:=zq hy;clear hy
  go_wp2_with fail
  go_round
  case rel=>exact⟨k+1,by omega,by go_num,zq (fun j z hj hz=>by
   by_cases e:j=k
   ·subst e;have h1:=HX.o;rw[hz] at h1;cases h1;exact decide_eq_false HY.o
   exact INV.o j z (by omega) hz)⟩
  case measure=>simp[intOf];omega
 have hlt':¬ (k:Int)<(l.length:Int):=by omega
 have hkl:k=l.length:=by omega
 have MS:=zq (EQ.o.trans (lK (fun j z hj hz=>INV.o j z (by omega) hz)));clear hkl
 go_wp2_with fail
 go_ret;exact⟨gQ MS.o.symm,rfl⟩
theorem oH (w:World) (v:Value) (l:List Int) (y:Int) (hR:RowOf w 1 dw v l) :
 Calls Tryz.prog 200 #[v,.int .i64 y] w fun e w'=>e=.returned (.bool (l.any fun x=>decide (y=x)))/\w=w':=by
 rw[<-l9];have HI:=zq (Jy w v l y hR);clear hR;obtain⟨i,hi⟩:∃ i,i=jS (fun x=>decide (y=x)) l:=⟨_,rfl⟩;rw[<-hi] at HI ⊢;clear hi
 go_enter Tryz.func200,Tryz.ntmps200
 go_wp2_with fail
 refine HI.o.mono ?_;rintro e w' ⟨rfl,rfl⟩
 go_wp2_with fail
 go_ret;exact⟨rfl,rfl⟩
def Tests {α:Type} (g:Nat) (lb:Array Value) (enc:α->Value) (p:α->Bool) (w:World) (l:List α):Prop :=
 ∀ (W:World) (x:α),Below w.heap.size w W->x∈l->Calls Tryz.prog g (#[enc x]++lb) W fun e w'=>e=.returned (.bool (p x))/\Below W.heap.size W w'
theorem wC (w:World) (v:Value) (l:List Ord) (g:Nat) (lb:Array Value) (p:Ord->Bool) (eg:Enters Tryz.prog g) (hR:RowOf w 5 Ord.cells v l) (ht:Tests g lb (fun x:Ord=>.agg #[.int .i64 x.ak,.int .i64 x.id,.int .i64 x.instr,.int .i64 x.qty,.int .i64 x.price]) p w l) :
 Calls Tryz.prog 150 #[v,.func (.func g) #[] lb] w fun e w'=>e=.returned (.int .i64 (jS p l))/\Below w.heap.size w w':=by
 obtain⟨a,c,rfl⟩:=hR.form;have hl:l.length<=9223372036854775807:=by have:=hR.caps;unfold maxLen at this;omega
 obtain⟨R,hRr⟩:=Zn (jS p l);rw[<-hRr];have EQ:=zq hRr;have HR:=zq hR;have HT:=zq ht;have EG:=zq eg;clear hR hRr ht eg
 go_enter Tryz.func150,Tryz.ntmps150
 go_wp2_with fail
 go_loopw [8] (fun i wr=>∃ k:Nat,k<=l.length/\i=.int .i64 k/\Hid (∀ (j:Nat) x,j<k->l[j]?=some x->p x=false)/\Below w.heap.size w wr) (fun i _=>l.length - (intOf i).toNat)
 case atStart=>exact⟨0,Nat.zero_le _,rfl,zq (fun j x hj=>absurd hj (Nat.not_lt_zero _)),Below.refl _ _⟩
 obtain⟨k,hk,rfl,INV,hb⟩:=hrel;have BW:=zq hb;clear hb;by_cases hlt:k<l.length
 ·obtain⟨x,hx⟩:∃ x,l[k]?=some x:=⟨_,List.getElem?_eq_getElem hlt⟩;obtain⟨b,o,rfl,_,hc⟩:=(HR.o.below BW.o).at_ hx;have c0:=hc 0 (.int .i64 x.ak) rfl;have c1:=hc 1 (.int .i64 x.id) rfl;have c2:=hc 2 (.int .i64 x.instr) rfl;have c3:=hc 3 (.int .i64 x.qty) rfl;have c4:=hc 4 (.int .i64 x.price) rfl;rw[Nat.add_zero] at c0;have hlt':(k:Int)<(l.length:Int):=by omega
  have HX:=zq hx;have CALL:=HT.o wr x BW.o (List.mem_of_getElem? hx);have eg:∀ (args:Array Value) (w:World),(callFunc g args).run Tryz.prog w=.ok (.enter g args) w:=EG.o;clear hx hc
  cases hp:p x with
  | true =>
    rw[hp] at CALL;have HP:=zq hp;have CL:=zq CALL;clear hp CALL
    go_wp2_with (go_at_fn g;refine CL.o.mono ?_;rintro e w' ⟨rfl,hb'⟩)
    have B2:=zq (BW.o.trans (hb'.mono BW.o.size));clear hb';go_ret;exact⟨gQ (by rw[EQ.o,nR INV.o HX.o HP.o]),B2.o⟩
  | false =>
    rw[hp] at CALL;have HP:=zq hp;have CL:=zq CALL;clear hp CALL
    go_wp2_with (go_at_fn g;refine CL.o.mono ?_;rintro e w' ⟨rfl,hb'⟩)
    have B2:=zq (BW.o.trans (hb'.mono BW.o.size));clear hb';go_roundw
    case rel=>exact⟨k+1,by omega,by go_num,zq (fun j z hj hz=>by
     by_cases e:j=k
     ·subst e;have h1:=HX.o;rw[hz] at h1;cases h1;exact HP.o
     exact INV.o j z (by omega) hz),B2.o⟩
    case measure=>simp[intOf];omega
 have hlt':¬ (k:Int)<(l.length:Int):=by omega
 have hkl:k=l.length:=by omega
 have MS:=zq (EQ.o.trans (lK (fun j z hj hz=>INV.o j z (by omega) hz)));clear hkl
 go_wp2_with fail
 go_ret;exact⟨gQ MS.o.symm,BW.o⟩
theorem lY (w:World) (v:Value) (l:List Ord) (g:Nat) (lb:Array Value) (p:Ord->Bool) (eg:Enters Tryz.prog g) (hR:RowOf w 5 Ord.cells v l) (ht:Tests g lb (fun x:Ord=>.agg #[.int .i64 x.ak,.int .i64 x.id,.int .i64 x.instr,.int .i64 x.qty,.int .i64 x.price]) p w l) :
 Calls Tryz.prog 99 #[v,.func (.func g) #[] lb] w fun e w'=>e=.returned (.bool (l.any p))/\Below w.heap.size w w':=by
 rw[<-l9];have HI:=zq (wC w v l g lb p eg hR ht);clear hR ht eg;obtain⟨i,hi⟩:=Zn (jS p l);rw[<-hi] at HI ⊢;clear hi
 go_enter Tryz.func99,Tryz.ntmps99
 go_wp2_with fail
 refine HI.o.mono ?_;rintro e w' ⟨rfl,hb⟩;have B:=zq hb;clear hb
 go_wp2_with fail
 go_ret;exact⟨rfl,B.o⟩
theorem wB (w:World) (v:Value) (l:List Ins) (g:Nat) (lb:Array Value) (p:Ins->Bool) (eg:Enters Tryz.prog g) (hR:RowOf w 7 Ins.cells v l) (ht:Tests g lb (fun x:Ins=>.agg #[.int .i64 x.kind,.int .i64 x.under,.int .i64 x.mult,.int .i64 x.strike,.int .i64 x.aN,.bool x.call,.int .i64 x.mark]) p w l) :
 Calls Tryz.prog 168 #[v,.func (.func g) #[] lb] w fun e w'=>e=.returned (.int .i64 (jS p l))/\Below w.heap.size w w':=by
 obtain⟨a,c,rfl⟩:=hR.form;have hl:l.length<=9223372036854775807:=by have:=hR.caps;unfold maxLen at this;omega
 obtain⟨R,hRr⟩:=Zn (jS p l);rw[<-hRr];have EQ:=zq hRr;have HR:=zq hR;have HT:=zq ht;have EG:=zq eg;clear hR hRr ht eg
 go_enter Tryz.func168,Tryz.ntmps168
 go_wp2_with fail
 go_loopw [8] (fun i wr=>∃ k:Nat,k<=l.length/\i=.int .i64 k/\Hid (∀ (j:Nat) x,j<k->l[j]?=some x->p x=false)/\Below w.heap.size w wr) (fun i _=>l.length - (intOf i).toNat)
 case atStart=>exact⟨0,Nat.zero_le _,rfl,zq (fun j x hj=>absurd hj (Nat.not_lt_zero _)),Below.refl _ _⟩
 obtain⟨k,hk,rfl,INV,hb⟩:=hrel;have BW:=zq hb;clear hb;by_cases hlt:k<l.length
 ·obtain⟨x,hx⟩:∃ x,l[k]?=some x:=⟨_,List.getElem?_eq_getElem hlt⟩;obtain⟨b,o,rfl,_,hc⟩:=(HR.o.below BW.o).at_ hx;have c0:=hc 0 (.int .i64 x.kind) rfl;have c1:=hc 1 (.int .i64 x.under) rfl;have c2:=hc 2 (.int .i64 x.mult) rfl;have c3:=hc 3 (.int .i64 x.strike) rfl;have c4:=hc 4 (.int .i64 x.aN) rfl;have c5:=hc 5 (.bool x.call) rfl;have c6:=hc 6 (.int .i64 x.mark) rfl;rw[Nat.add_zero] at c0;have hlt':(k:Int)<(l.length:Int):=by omega
  have HX:=zq hx;have CALL:=HT.o wr x BW.o (List.mem_of_getElem? hx);have eg:∀ (args:Array Value) (w:World),(callFunc g args).run Tryz.prog w=.ok (.enter g args) w:=EG.o;clear hx hc
  cases hp:p x with
  | true =>
    rw[hp] at CALL;have HP:=zq hp;have CL:=zq CALL;clear hp CALL
    go_wp2_with (go_at_fn g;refine CL.o.mono ?_;rintro e w' ⟨rfl,hb'⟩)
    have B2:=zq (BW.o.trans (hb'.mono BW.o.size));clear hb';go_ret;exact⟨gQ (by rw[EQ.o,nR INV.o HX.o HP.o]),B2.o⟩
  | false =>
    rw[hp] at CALL;have HP:=zq hp;have CL:=zq CALL;clear hp CALL
    go_wp2_with (go_at_fn g;refine CL.o.mono ?_;rintro e w' ⟨rfl,hb'⟩)
    have B2:=zq (BW.o.trans (hb'.mono BW.o.size));clear hb';go_roundw
    case rel=>exact⟨k+1,by omega,by go_num,zq (fun j z hj hz=>by
     by_cases e:j=k
     ·subst e;have h1:=HX.o;rw[hz] at h1;cases h1;exact HP.o
     exact INV.o j z (by omega) hz),B2.o⟩
    case measure=>simp[intOf];omega
 have hlt':¬ (k:Int)<(l.length:Int):=by omega
 have hkl:k=l.length:=by omega
 have MS:=zq (EQ.o.trans (lK (fun j z hj hz=>INV.o j z (by omega) hz)));clear hkl
 go_wp2_with fail
 go_ret;exact⟨gQ MS.o.symm,BW.o⟩
theorem rG (w:World) (v:Value) (l:List Ins) (g:Nat) (lb:Array Value) (p:Ins->Bool) (eg:Enters Tryz.prog g) (hR:RowOf w 7 Ins.cells v l) (ht:Tests g lb (fun x:Ins=>.agg #[.int .i64 x.kind,.int .i64 x.under,.int .i64 x.mult,.int .i64 x.strike,.int .i64 x.aN,.bool x.call,.int .i64 x.mark]) p w l) :
 Calls Tryz.prog 133 #[v,.func (.func g) #[] lb] w fun e w'=>e=.returned (.bool (l.any p))/\Below w.heap.size w w':=by
 rw[<-l9];have HI:=zq (wB w v l g lb p eg hR ht);clear hR ht eg;obtain⟨i,hi⟩:=Zn (jS p l);rw[<-hi] at HI ⊢;clear hi
 go_enter Tryz.func133,Tryz.ntmps133
 go_wp2_with fail
 refine HI.o.mono ?_;rintro e w' ⟨rfl,hb⟩;have B:=zq hb;clear hb
 go_wp2_with fail
 go_ret;exact⟨rfl,B.o⟩
theorem yH (w:World) (v:Value) (l:List Pos) (g:Nat) (lb:Array Value) (p:Pos->Bool) (eg:Enters Tryz.prog g) (hR:RowOf w 3 Pos.cells v l) (ht:Tests g lb (fun x:Pos=>.agg #[.int .i64 x.ak,.int .i64 x.instr,.int .i64 x.qty]) p w l) :
 Calls Tryz.prog 172 #[v,.func (.func g) #[] lb] w fun e w'=>e=.returned (.int .i64 (jS p l))/\Below w.heap.size w w':=by
 obtain⟨a,c,rfl⟩:=hR.form;have hl:l.length<=9223372036854775807:=by have:=hR.caps;unfold maxLen at this;omega
 obtain⟨R,hRr⟩:=Zn (jS p l);rw[<-hRr];have EQ:=zq hRr;have HR:=zq hR;have HT:=zq ht;have EG:=zq eg;clear hR hRr ht eg
 go_enter Tryz.func172,Tryz.ntmps172
 go_wp2_with fail
 go_loopw [8] (fun i wr=>∃ k:Nat,k<=l.length/\i=.int .i64 k/\Hid (∀ (j:Nat) x,j<k->l[j]?=some x->p x=false)/\Below w.heap.size w wr) (fun i _=>l.length - (intOf i).toNat)
 case atStart=>exact⟨0,Nat.zero_le _,rfl,zq (fun j x hj=>absurd hj (Nat.not_lt_zero _)),Below.refl _ _⟩
 obtain⟨k,hk,rfl,INV,hb⟩:=hrel;have BW:=zq hb;clear hb;by_cases hlt:k<l.length
 ·obtain⟨x,hx⟩:∃ x,l[k]?=some x:=⟨_,List.getElem?_eq_getElem hlt⟩;obtain⟨b,o,rfl,_,hc⟩:=(HR.o.below BW.o).at_ hx;have c0:=hc 0 (.int .i64 x.ak) rfl;have c1:=hc 1 (.int .i64 x.instr) rfl;have c2:=hc 2 (.int .i64 x.qty) rfl;rw[Nat.add_zero] at c0;have hlt':(k:Int)<(l.length:Int):=by omega
  have HX:=zq hx;have CALL:=HT.o wr x BW.o (List.mem_of_getElem? hx);have eg:∀ (args:Array Value) (w:World),(callFunc g args).run Tryz.prog w=.ok (.enter g args) w:=EG.o;clear hx hc
  cases hp:p x with
  | true =>
    rw[hp] at CALL;have HP:=zq hp;have CL:=zq CALL;clear hp CALL
    go_wp2_with (go_at_fn g;refine CL.o.mono ?_;rintro e w' ⟨rfl,hb'⟩)
    have B2:=zq (BW.o.trans (hb'.mono BW.o.size));clear hb';go_ret;exact⟨gQ (by rw[EQ.o,nR INV.o HX.o HP.o]),B2.o⟩
  | false =>
    rw[hp] at CALL;have HP:=zq hp;have CL:=zq CALL;clear hp CALL
    go_wp2_with (go_at_fn g;refine CL.o.mono ?_;rintro e w' ⟨rfl,hb'⟩)
    have B2:=zq (BW.o.trans (hb'.mono BW.o.size));clear hb';go_roundw
    case rel=>exact⟨k+1,by omega,by go_num,zq (fun j z hj hz=>by
     by_cases e:j=k
     ·subst e;have h1:=HX.o;rw[hz] at h1;cases h1;exact HP.o
     exact INV.o j z (by omega) hz),B2.o⟩
    case measure=>simp[intOf];omega
 have hlt':¬ (k:Int)<(l.length:Int):=by omega
 have hkl:k=l.length:=by omega
 have MS:=zq (EQ.o.trans (lK (fun j z hj hz=>INV.o j z (by omega) hz)));clear hkl
 go_wp2_with fail
 go_ret;exact⟨gQ MS.o.symm,BW.o⟩
theorem uG (w:World) (v:Value) (l:List Pos) (g:Nat) (lb:Array Value) (p:Pos->Bool) (eg:Enters Tryz.prog g) (hR:RowOf w 3 Pos.cells v l) (ht:Tests g lb (fun x:Pos=>.agg #[.int .i64 x.ak,.int .i64 x.instr,.int .i64 x.qty]) p w l) :
 Calls Tryz.prog 144 #[v,.func (.func g) #[] lb] w fun e w'=>e=.returned (.bool (l.any p))/\Below w.heap.size w w':=by
 rw[<-l9];have HI:=zq (yH w v l g lb p eg hR ht);clear hR ht eg;obtain⟨i,hi⟩:=Zn (jS p l);rw[<-hi] at HI ⊢;clear hi
 go_enter Tryz.func144,Tryz.ntmps144
 go_wp2_with fail
 refine HI.o.mono ?_;rintro e w' ⟨rfl,hb⟩;have B:=zq hb;clear hb
 go_wp2_with fail
 go_ret;exact⟨rfl,B.o⟩
theorem wE (w:World) (v:Value) (l:List dX) (g:Nat) (lb:Array Value) (p:dX->Bool) (eg:Enters Tryz.prog g) (hR:RowOf w 4 dX.cells v l) (ht:Tests g lb (fun x:dX=>.agg #[.string x.name,.int .i64 x.cur,.int .i64 x.price,.int .i64 x.cZ]) p w l) :
 Calls Tryz.prog 89 #[v,.func (.func g) #[] lb] w fun e w'=>e=.returned (.int .i64 (jS p l))/\Below w.heap.size w w':=by
 obtain⟨a,c,rfl⟩:=hR.form;have hl:l.length<=9223372036854775807:=by have:=hR.caps;unfold maxLen at this;omega
 obtain⟨R,hRr⟩:=Zn (jS p l);rw[<-hRr];have EQ:=zq hRr;have HR:=zq hR;have HT:=zq ht;have EG:=zq eg;clear hR hRr ht eg
 go_enter Tryz.func89,Tryz.ntmps89
 go_wp2_with fail
 go_loopw [8] (fun i wr=>∃ k:Nat,k<=l.length/\i=.int .i64 k/\Hid (∀ (j:Nat) x,j<k->l[j]?=some x->p x=false)/\Below w.heap.size w wr) (fun i _=>l.length - (intOf i).toNat)
 case atStart=>exact⟨0,Nat.zero_le _,rfl,zq (fun j x hj=>absurd hj (Nat.not_lt_zero _)),Below.refl _ _⟩
 obtain⟨k,hk,rfl,INV,hb⟩:=hrel;have BW:=zq hb;clear hb;by_cases hlt:k<l.length
 ·obtain⟨x,hx⟩:∃ x,l[k]?=some x:=⟨_,List.getElem?_eq_getElem hlt⟩;obtain⟨b,o,rfl,_,hc⟩:=(HR.o.below BW.o).at_ hx;have c0:=hc 0 (.string x.name) rfl;have c1:=hc 1 (.int .i64 x.cur) rfl;have c2:=hc 2 (.int .i64 x.price) rfl;have c3:=hc 3 (.int .i64 x.cZ) rfl;rw[Nat.add_zero] at c0;have hlt':(k:Int)<(l.length:Int):=by omega
  have HX:=zq hx;have CALL:=HT.o wr x BW.o (List.mem_of_getElem? hx);have eg:∀ (args:Array Value) (w:World),(callFunc g args).run Tryz.prog w=.ok (.enter g args) w:=EG.o;clear hx hc
  cases hp:p x with
  | true =>
    rw[hp] at CALL;have HP:=zq hp;have CL:=zq CALL;clear hp CALL
    go_wp2_with (go_at_fn g;refine CL.o.mono ?_;rintro e w' ⟨rfl,hb'⟩)
    have B2:=zq (BW.o.trans (hb'.mono BW.o.size));clear hb';go_ret;exact⟨gQ (by rw[EQ.o,nR INV.o HX.o HP.o]),B2.o⟩
  | false =>
    rw[hp] at CALL;have HP:=zq hp;have CL:=zq CALL;clear hp CALL
    go_wp2_with (go_at_fn g;refine CL.o.mono ?_;rintro e w' ⟨rfl,hb'⟩)
    have B2:=zq (BW.o.trans (hb'.mono BW.o.size));clear hb';go_roundw
    case rel=>exact⟨k+1,by omega,by go_num,zq (fun j z hj hz=>by
     by_cases e:j=k
     ·subst e;have h1:=HX.o;rw[hz] at h1;cases h1;exact HP.o
     exact INV.o j z (by omega) hz),B2.o⟩
    case measure=>simp[intOf];omega
 have hlt':¬ (k:Int)<(l.length:Int):=by omega
 have hkl:k=l.length:=by omega
 have MS:=zq (EQ.o.trans (lK (fun j z hj hz=>INV.o j z (by omega) hz)));clear hkl
 go_wp2_with fail
 go_ret;exact⟨gQ MS.o.symm,BW.o⟩
theorem yG (w:World) (v:Value) (l:List Int) (g:Nat) (lb:Array Value) (p:Int->Bool) (eg:Enters Tryz.prog g) (hR:RowOf w 1 dw v l) (ht:Tests g lb (fun x:Int=>.int .i64 x) p w l) :
 Calls Tryz.prog 169 #[v,.func (.func g) #[] lb] w fun e w'=>e=.returned (.int .i64 (jS p l))/\Below w.heap.size w w':=by
 obtain⟨a,c,rfl⟩:=hR.form;have hl:l.length<=9223372036854775807:=by have:=hR.caps;unfold maxLen at this;omega
 obtain⟨R,hRr⟩:=Zn (jS p l);rw[<-hRr];have EQ:=zq hRr;have HR:=zq hR;have HT:=zq ht;have EG:=zq eg;clear hR hRr ht eg
 go_enter Tryz.func169,Tryz.ntmps169
 go_wp2_with fail
 go_loopw [8] (fun i wr=>∃ k:Nat,k<=l.length/\i=.int .i64 k/\Hid (∀ (j:Nat) x,j<k->l[j]?=some x->p x=false)/\Below w.heap.size w wr) (fun i _=>l.length - (intOf i).toNat)
 case atStart=>exact⟨0,Nat.zero_le _,rfl,zq (fun j x hj=>absurd hj (Nat.not_lt_zero _)),Below.refl _ _⟩
 obtain⟨k,hk,rfl,INV,hb⟩:=hrel;have BW:=zq hb;clear hb;by_cases hlt:k<l.length
 ·obtain⟨x,hx⟩:∃ x,l[k]?=some x:=⟨_,List.getElem?_eq_getElem hlt⟩;obtain⟨b,o,rfl,_,hc⟩:=(HR.o.below BW.o).at_ hx;have c0:=hc 0 (.int .i64 x) rfl;rw[Nat.mul_one,Nat.add_zero] at c0;have hlt':(k:Int)<(l.length:Int):=by omega
  have HX:=zq hx;have CALL:=HT.o wr x BW.o (List.mem_of_getElem? hx);have eg:∀ (args:Array Value) (w:World),(callFunc g args).run Tryz.prog w=.ok (.enter g args) w:=EG.o;clear hx hc
  cases hp:p x with
  | true =>
    rw[hp] at CALL;have HP:=zq hp;have CL:=zq CALL;clear hp CALL
    go_wp2_with (go_at_fn g;refine CL.o.mono ?_;rintro e w' ⟨rfl,hb'⟩)
    have B2:=zq (BW.o.trans (hb'.mono BW.o.size));clear hb';go_ret;exact⟨gQ (by rw[EQ.o,nR INV.o HX.o HP.o]),B2.o⟩
  | false =>
    rw[hp] at CALL;have HP:=zq hp;have CL:=zq CALL;clear hp CALL
    go_wp2_with (go_at_fn g;refine CL.o.mono ?_;rintro e w' ⟨rfl,hb'⟩)
    have B2:=zq (BW.o.trans (hb'.mono BW.o.size));clear hb';go_roundw
    case rel=>exact⟨k+1,by omega,by go_num,zq (fun j z hj hz=>by
     by_cases e:j=k
     ·subst e;have h1:=HX.o;rw[hz] at h1;cases h1;exact HP.o
     exact INV.o j z (by omega) hz),B2.o⟩
    case measure=>simp[intOf];omega
 have hlt':¬ (k:Int)<(l.length:Int):=by omega
 have hkl:k=l.length:=by omega
 have MS:=zq (EQ.o.trans (lK (fun j z hj hz=>INV.o j z (by omega) hz)));clear hkl
 go_wp2_with fail
 go_ret;exact⟨gQ MS.o.symm,BW.o⟩
theorem nJ (w:World) (v:Value) (l:List Int) (g:Nat) (lb:Array Value) (p:Int->Bool) (eg:Enters Tryz.prog g) (hR:RowOf w 1 dw v l) (ht:Tests g lb (fun x:Int=>.int .i64 x) p w l) :
 Calls Tryz.prog 137 #[v,.func (.func g) #[] lb] w fun e w'=>e=.returned (.bool (l.any p))/\Below w.heap.size w w':=by
 rw[<-l9];have HI:=zq (yG w v l g lb p eg hR ht);clear hR ht eg;obtain⟨i,hi⟩:=Zn (jS p l);rw[<-hi] at HI ⊢;clear hi
 go_enter Tryz.func137,Tryz.ntmps137
 go_wp2_with fail
 refine HI.o.mono ?_;rintro e w' ⟨rfl,hb⟩;have B:=zq hb;clear hb
 go_wp2_with fail
 go_ret;exact⟨rfl,B.o⟩
theorem TInt.info:(Tryz.prog.info? 3).map (fun i=>(i.zero,i.size,i.bytes))=some (some (.int .i64 0),1,8):=by kernel_rfl
theorem Fe (xs:List Int):∀ u∈dR xs,u.oneCell'=true:=by
 intro u hu;obtain⟨x,_,rfl⟩:=List.mem_map.1 hu;rfl
theorem gU {w:World} {B:Nat} {v:Value} {xs:List Int} (h:w.ownsRow B 3 1 v xs.length (dR xs)):RowOf w 1 dw v xs:=by
 have hR:=ru h;rcases h.2 with ⟨rfl,hn⟩|⟨g,cap,cur,rfl,hB,hg,hc,hm,hs,ht⟩
 ·have hx:xs=[]:=List.eq_nil_of_length_eq_zero hn;subst hx;exact⟨none,0,rfl,Nat.le_refl _,Nat.zero_le _,fun _=>rfl,fun i x hi=>by simp at hi⟩
 refine⟨_,cap,rfl,hc,hm,(fun h=>by cases h),fun i x hi=>⟨g,0,rfl,lt_of_heap hg,fun j u hj=>?_⟩⟩;obtain rfl:j=0:=by
  have:=(List.getElem?_eq_some_iff.1 hj).1;simp[dw] at this;exact this
 have hu:u=.int .i64 x:=by simpa [dw] using hj.symm
 subst hu;rcases hR.2 with ⟨c',e,_⟩|⟨a',c',e,hh⟩
 ·cases e
 cases e
 have:=hh i (.int .i64 x) (by simp[dR,hi]);rw[add_plain] at this;rw[show 0+i*1+0=0+i from by omega];exact this
theorem wI (wr:World) (B:Nat) (v:Value) (cur:List Int) (x:Int) (H:Nat) (hH:wr.heap.size=H) (hor:wr.ownsRow B 3 1 v cur.length (dR cur)) (hB:B<=wr.heap.size) (hl:cur.length<=1000000) :
 ∃ v' w3,(Builtin.append_ #[28, 28] 28 #[v,.slice (some ⟨H,0,none⟩) 1 1]).run Tryz.prog (wr.alloc (.cells #[.int .i64 x] 3))=.ok v' w3/\w3.ownsRow B 3 1 v' (cur++[x]).length (dR (cur++[x])) /\
  Mod (fun k=>v.ownBlock=some k) wr w3/\∀ k,v'.ownBlock=some k->v.ownBlock=some k\/wr.heap.size<=k:=by
 subst hH;obtain⟨i0,h1,h2,h3,h4⟩:=info_parts TInt.info;have M0:=(Mod.refl (fun _=>False) wr).alloc (.cells #[.int .i64 x] 3);have ho:(wr.alloc (.cells #[.int .i64 x] 3)).ownsRow 0 3 1 v cur.length (dR cur):=jX (ownsRow_base hor (base':=0) (fun _ _=>Nat.zero_le _)) (fun k hk=>M0.block k (hor.lt k hk).2 (fun h=>h));have hx:Reads (wr.alloc (.cells #[.int .i64 x] 3)) 1 (.slice (some ⟨wr.heap.size,0,none⟩) 1 1) 1 (dR [x]) :=
  ⟨rfl,Or.inr ⟨_,_,rfl,fun j u hj=>by
   have hj0:j=0:=by have:=(List.getElem?_eq_some_iff.1 hj).1;simpa [dR] using this
   subst hj0;rw[add_plain,Nat.add_zero,cell_of_heap (heap_alloc_new wr _)]
   simpa [dR] using hj⟩⟩
 obtain⟨v',w3,hrun,ho3,hm3,hb3,_⟩:=kL (P:=Tryz.prog) 28 28 3 i0 (.int .i64 0) 1 8 Tryz.underlying28 h1 h2 h3 h4 rfl (by decide) v _ _ ho _ _ _ hx (Fe _) (by unfold maxLen;omega) (by omega);have hsz:(wr.alloc (.cells #[.int .i64 x] 3)).heap.size=wr.heap.size+1:=by simp
 refine⟨v',w3,hrun,?_,(M0.mono (fun _ _ h=>h.elim)).trans hm3 (fun i _ h=>h),fun k hk=>(hb3 k hk).imp id (fun e=>by omega)⟩;have e:dR (cur++[x])=dR cur++dR [x]:=by simp[dR]
 rw[List.length_append,e];refine ownsRow_base ho3 (fun k hk=>?_);rcases hb3 k hk with h|h
 ·exact (hor.lt k h).1
 omega
def qc (w:World) (l:List Int) (e:Ending) (w':World):Prop:=∃ v,e=.returned v/\w'.ownsRow w.heap.size 3 1 v l.length (dR l)/\Below w.heap.size w w'
theorem take_snoc' {α:Type} {l:List α} {k:Nat} {x:α} (hx:l[k]?=some x):l.take (k+1)=l.take k++[x]:=by
 have hk:=(List.getElem?_eq_some_iff.1 hx).1;rw[List.take_succ_eq_append_getElem hk,(List.getElem?_eq_some_iff.1 hx).2]
theorem vT (w:World) (v:Value) (l:List (Acc×Value)) (hR:RowOf w 4 Acc.cells v l) (hl:l.length<=1024) (hca:∀ p∈l,∃ a n c,p.2=.slice a n c) :
 Calls Tryz.prog 136 #[v] w (qc w (l.map fun p=>p.1.parent)):=by
 obtain⟨a,c,rfl⟩:=hR.form;obtain⟨PS,hPS⟩:∃ PS,PS=l.map fun p=>p.1.parent:=⟨_,rfl⟩
 rw[<-hPS];have EQ:=zq hPS;have HR:=zq hR;have HC:=zq hca;clear hR hPS hca
 go_enter Tryz.func136,Tryz.ntmps136
 go_wp2_with fail
 go_loopw [3,8] (fun ov i wr=>∃ (k:Nat) (cur:List Int),k<=l.length/\i=.int .i64 k/\cur.length=k/\Hid (cur=PS.take k)/\wr.ownsRow w.heap.size 3 1 ov cur.length (dR cur)/\Below w.heap.size w wr) (fun _ i _=>l.length - (intOf i).toNat)
 case atStart=>exact⟨0,[],Nat.zero_le _,rfl,rfl,zq (by simp),World.ownsRow_nil _ _ _ _,Below.refl _ _⟩
 obtain⟨k,cur,hk,rfl,hcl,CUR,ho,hb⟩:=hrel;have OW:=zq ho;have BW:=zq hb;have ROW:=zq (HR.o.below hb);clear ho hb;by_cases hlt:k<l.length
 ·obtain⟨x,hx⟩:∃ x,l[k]?=some x:=⟨_,List.getElem?_eq_getElem hlt⟩;obtain⟨b,o,rfl,hbl,hc⟩:=ROW.o.at_ hx;obtain⟨va,na,ca,hva⟩:=HC.o x (List.mem_of_getElem? hx);have c0:=hc 0 (.int .i64 x.1.parent) rfl;have c1:=hc 1 (.slice va na ca) (by simp[Acc.cells,hva]);have c2:=hc 2 (.bool x.1.flag) rfl;have c3:=hc 3 (.int .i64 x.1.last) rfl;rw[Nat.add_zero] at c0;have hlt':(k:Int)<(l.length:Int):=by omega
  have HX:=zq (show PS.take (k+1)=cur++[x.1.parent] from by rw[CUR.o];exact take_snoc' (by rw[EQ.o,List.getElem?_map,hx];rfl));have LT:=zq hlt;have KL:=zq hcl;clear hx hc hva;have M1:=(Mod.refl (fun _=>False) wr).alloc (.cells #[.int .i64 x.1.parent,.slice va na ca,.bool x.1.flag,.int .i64 x.1.last] 52);have ho1:=jX OW.o (fun k hk=>M1.block k (OW.o.lt k hk).2 (fun h=>h));obtain⟨v3,w3,R3,O3,M3,N3⟩:=wI _ w.heap.size _ cur x.1.parent (wr.heap.size+1) (by simp) ho1 (Nat.le_trans BW.o.size M1.size) (by omega);have R3':=zq R3;have O3':=zq O3;have B3:=zq (show Below w.heap.size w w3 from (((Mod.of_below BW.o).trans M1 (fun _ _ h=>h)).mono (T:=fun k=>w.heap.size<=k) (fun _ _ h=>h.elim)).trans M3 (fun k _ h=>(ho1.lt k h).1) |>.mono (T:=fun _=>False) (fun k hk h=>by omega) |>.aU);clear R3 O3 M3 N3 M1 ho1
  go_wp2_with (at_builtin;refine wpList_append_run rfl (.tmp 12) (.tmp 15) 28 rfl rfl rfl R3'.o ?_)
  go_roundw
  case rel=>exact⟨k+1,cur++[x.1.parent],by have:=LT.o;omega,by go_num,by rw[List.length_append,KL.o];rfl,zq HX.o.symm,O3'.o,B3.o⟩
  case measure=>have:=LT.o;simp[intOf];omega
 have hlt':¬ (k:Int)<(l.length:Int):=by omega
 have E:=zq (show cur=PS from by rw[CUR.o];exact List.take_of_length_le (by rw[EQ.o,List.length_map];omega))
 go_wp2_with fail
 go_ret;rw[E.o] at OW;exact⟨_,rfl,OW.o,BW.o⟩
theorem _root_.Go.Bw.bK.forms {w:World} {V:aB} {l:aH} (h:bK w V l):∃ a1 c1 a2 c2 a3 c3 a4 c4 a5 c5 a6 c6 a7 c7 a8 c8 asl,
 V=⟨.slice a1 l.aQ.length c1,.slice a2 l.ah.length c2,.slice a3 l.af.length c3,.slice a4 asl.length c4,.slice a5 l.au.length c5,.slice a6 l.orders.length c6,.slice a7 l.aG.length c7,.slice a8 l.aJ.length c8,asl⟩:=by
 obtain⟨aQ,ah,af,ai,au,orders,aG,aJ,asl⟩:=V;obtain⟨a1,c1,e1⟩:=h.aQ.form;obtain⟨a2,c2,e2⟩:=h.ah.form;obtain⟨a3,c3,e3⟩:=h.af.form;obtain⟨a4,c4,e4⟩:=h.ai.form;obtain⟨a5,c5,e5⟩:=h.au.form;obtain⟨a6,c6,e6⟩:=h.orders.form;obtain⟨a7,c7,e7⟩:=h.aG.form;obtain⟨a8,c8,e8⟩:=h.aJ.form
 simp only at e1 e2 e3 e4 e5 e6 e7 e8
 subst e1;subst e2;subst e3;subst e4;subst e5;subst e6;subst e7;subst e8;exact⟨_,_,_,_,_,_,_,_,_,_,_,_,_,_,_,_,_,rfl⟩
theorem _root_.Go.Bw.bK.iV {w:World} {V:aB} {l:aH} (h:bK w V l):∀ p∈V.ac,∃ a n c,p.2=.slice a n c:=fun p hp=>by
 obtain⟨a,c,e⟩:=(h.aT p hp).form;exact⟨a,_,c,e⟩
theorem tZ (w:World) (V:aB) (L:aH) (h:bK w V L) (hl:L.ai.length<=1024) :
 Calls Tryz.prog 76 #[V.val L] w (qc w L.parents):=by
 obtain⟨a1,c1',a2,c2',a3,c3',a,c,a5,c5',a6,c6',a7,c7',a8,c8',l,rfl⟩:=h.forms;have hR:=h.ai;have hca:=h.iV;have hsame:=h.same
 simp only[aB.val,aB.cells]
 simp only at hR hca hsame
 have hll:L.ai.length=l.length:=by rw[hsame,List.length_map]
 rw[show L.parents=l.map fun p=>p.1.parent from by unfold aH.parents;rw[hsame,List.map_map];rfl];rw[hll] at hl;clear h hsame hll;obtain⟨PS,hPS⟩:∃ PS,PS=l.map fun p=>p.1.parent:=⟨_,rfl⟩
 rw[<-hPS];have EQ:=zq hPS;have HR:=zq hR;have HC:=zq hca;clear hR hPS hca
 go_enter Tryz.func76,Tryz.ntmps76
 go_wp2_with fail
 go_loopw [3,9] (fun ov i wr=>∃ (k:Nat) (cur:List Int),k<=l.length/\i=.int .i64 k/\cur.length=k/\Hid (cur=PS.take k)/\wr.ownsRow w.heap.size 3 1 ov cur.length (dR cur)/\Below w.heap.size w wr) (fun _ i _=>l.length - (intOf i).toNat)
 case atStart=>exact⟨0,[],Nat.zero_le _,rfl,rfl,zq (by simp),World.ownsRow_nil _ _ _ _,Zb⟩
 obtain⟨k,cur,hk,rfl,hcl,CUR,ho,hb⟩:=hrel;have OW:=zq ho;have BW:=zq hb;have ROW:=zq (HR.o.below hb);clear ho hb;by_cases hlt:k<l.length
 ·obtain⟨x,hx⟩:∃ x,l[k]?=some x:=⟨_,List.getElem?_eq_getElem hlt⟩;obtain⟨b,o,rfl,hbl,hc⟩:=ROW.o.at_ hx;obtain⟨va,na,ca,hva⟩:=HC.o x (List.mem_of_getElem? hx);have c0:=hc 0 (.int .i64 x.1.parent) rfl;have c1:=hc 1 (.slice va na ca) (by simp[Acc.cells,hva]);have c2:=hc 2 (.bool x.1.flag) rfl;have c3:=hc 3 (.int .i64 x.1.last) rfl;rw[Nat.add_zero] at c0;have hlt':(k:Int)<(l.length:Int):=by omega
  have HX:=zq (show PS.take (k+1)=cur++[x.1.parent] from by rw[CUR.o];exact take_snoc' (by rw[EQ.o,List.getElem?_map,hx];rfl));have LT:=zq hlt;have KL:=zq hcl;clear hx hc hva;have M1:=(Mod.refl (fun _=>False) wr).alloc (.cells #[.int .i64 x.1.parent,.slice va na ca,.bool x.1.flag,.int .i64 x.1.last] 52);have ho1:=jX OW.o (fun k hk=>M1.block k (OW.o.lt k hk).2 (fun h=>h));obtain⟨v3,w3,R3,O3,M3,N3⟩:=wI _ w.heap.size _ cur x.1.parent (wr.heap.size+1) (by simp) ho1 (Nat.le_trans BW.o.size M1.size) (by omega);have R3':=zq R3;have O3':=zq O3;have B3:=zq (show Below w.heap.size w w3 from (((Mod.of_below BW.o).trans M1 (fun _ _ h=>h)).mono (T:=fun k=>w.heap.size<=k) (fun _ _ h=>h.elim)).trans M3 (fun k _ h=>(ho1.lt k h).1) |>.mono (T:=fun _=>False) (fun k hk h=>by omega) |>.aU);clear R3 O3 M3 N3 M1 ho1
  go_wp2_with (at_builtin;refine wpList_append_run rfl (.tmp 13) (.tmp 16) 28 rfl rfl rfl R3'.o ?_)
  go_roundw
  case rel=>exact⟨k+1,cur++[x.1.parent],by have:=LT.o;omega,by go_num,by rw[List.length_append,KL.o];rfl,zq HX.o.symm,O3'.o,B3.o⟩
  case measure=>have:=LT.o;simp[intOf];omega
 have hlt':¬ (k:Int)<(l.length:Int):=by omega
 have E:=zq (show cur=PS from by rw[CUR.o];exact List.take_of_length_le (by rw[EQ.o,List.length_map];omega))
 go_wp2_with fail
 go_ret;rw[E.o] at OW;exact⟨_,rfl,OW.o,BW.o⟩
def AP (ps:List Int) (v:Nat) (p:Int):Prop:=p=-1\/(2<=v/\2<=p/\p<v/\(ig ps v).length<=4)
def uw (ps:List Int) (k:Nat):Prop:=∀ (v:Nat) (p:Int),v<k->ps[v]?=some p->AP ps v p
theorem uw.falls {ps:List Int} {k:Nat} (h:uw ps k):Falls ps k:=fun v p hv hp=>by
 rcases h v p hv hp with h|h
 ·exact Or.inl h
 exact Or.inr (by omega)
theorem uw.Ls {ps:List Int} {k:Nat} (h:uw ps k) {p:Int} (hp:ps[k]?=some p) (h0:0<=p) (h1:p<k):Falls ps (k+1):=fun v q hv hq=>by
 by_cases e:v=k
 ·subst e;rw[hp] at hq;cases hq;exact Or.inr ⟨h0,h1⟩
 exact h.falls v q (by omega) hq
theorem uw.next {ps:List Int} {k:Nat} (h:uw ps k) {p:Int} (hp:ps[k]?=some p) (ho:AP ps k p):uw ps (k+1):=fun v q hv hq=>by
 by_cases e:v=k
 ·subst e;rw[hp] at hq;cases hq;exact ho
 exact h v q (by omega) hq
theorem uw.tree {ps:List Int} (h:uw ps ps.length) (h1:2<=ps.length) (h2:ps.length<=16):iD ps:=⟨h1,h2,fun v p hp=>h v p (List.getElem?_eq_some_iff.1 hp).1 hp⟩
def Ee (w:World) (ps:List Int) (e:Ending) (w':World):Prop:=∃ p er:Int,e=.returned (.tuple #[.int .i64 p,.int .i64 er])/\(er=0↔iD ps)/\Below w.heap.size w w'
theorem jQ {w w':World} {ps:List Int} {p er:Int} (he:er≠0) (hn:¬ iD ps) (hb:Below w.heap.size w w'):Ee w ps (.returned (.tuple #[.int .i64 p,.int .i64 er])) w' :=
 ⟨p,er,rfl,⟨fun h=>absurd h he,fun h=>absurd h hn⟩,hb⟩
structure wL (w:World) (ps:List Int) (k:Nat) (wr:World) (DS:Array Value):Prop where
 blk:wr.heap[w.heap.size]?=some (.cells DS 3 (0,0))
 size:DS.size=ps.length
 deep:∀ j,j<k->DS[j]?=some (.int .i64 ((ig ps j).length:Nat))
 low:Below w.heap.size w wr
theorem wL.next {w wr:World} {ps:List Int} {k:Nat} {DS:Array Value} (h:wL w ps k wr DS) (hk:k<ps.length) (d:Nat) (hd:d=(ig ps k).length) :
 wL w ps (k+1) (wr.setCell ⟨w.heap.size,k,none⟩ (.int .i64 (d:Nat))) (DS.setIfInBounds k (.int .i64 (d:Nat))):=by
 subst hd;refine⟨bC h.blk k _,by simp[h.size],fun j hj=>?_,?_⟩
 ·rw[Array.getElem?_setIfInBounds];by_cases e:k=j
  ·subst e;rw[if_pos rfl,if_pos (by rw[h.size];exact hk)]
  rw[if_neg e];exact h.deep j (by omega)
 exact (((Mod.of_below h.low).mono (T:=fun x=>w.heap.size<=x) (fun _ _ h=>h.elim)).setCell _ (fun _=>Nat.le_refl _)).mono (T:=fun _=>False) (fun i hi h=>by omega) |>.aU
theorem check_any (w:World) (v:Value) (ps:List Int) (hR:RowOf w 1 dw v ps) :
 Calls Tryz.prog 135 #[v] w (Ee w ps):=by
 obtain⟨a,c,rfl⟩:=hR.form;have HR:=zq hR;clear hR;by_cases h2:ps.length<2
 ·have BAD:=zq (show ¬ iD ps from fun h=>by have:=h.lo;omega);have h2':(ps.length:Int)<2:=by omega
  go_enter Tryz.func135,Tryz.ntmps135
  go_wp2_with fail
  go_ret2;exact jQ (by decide) BAD.o (Below.refl _ _)
 by_cases h16:16<ps.length
 ·have BAD:=zq (show ¬ iD ps from fun h=>by have:=h.hi;omega);have h2':¬ (ps.length:Int)<2:=by omega
  have h16':(16:Int)<(ps.length:Int):=by omega
  go_enter Tryz.func135,Tryz.ntmps135
  go_wp2_with fail
  go_ret2;exact jQ (by decide) BAD.o (Below.refl _ _)
 have h2':¬ (ps.length:Int)<2:=by omega
 have h16':¬ (16:Int)<(ps.length:Int):=by omega
 have LB:=zq (And.intro (Nat.le_of_not_lt h2) (Nat.le_of_not_lt h16));obtain⟨i0,t1,t2,t3,t4⟩:=info_parts TInt.info;obtain⟨DS,hDS⟩:=Zn (madeCells (Value.int .i64 0).cells (ps.length*i0.size));have hmk:∀ W:World,(Instr.makeSlice 28 (.int .i64 (ps.length:Nat)) (.int .i64 (ps.length:Nat))).run Tryz.prog W=.ok (.slice (some ⟨W.heap.size,0,none⟩) ps.length ps.length) (W.alloc (.cells DS 3)):=fun W=>by
  have:=run_make (P:=Tryz.prog) W 28 3 i0 (.int .i64 0) Tryz.underlying28 t1 t2 .i64 .i64 (ps.length:Nat) (ps.length:Nat) (by omega) (Int.le_refl _) (by rw[t4];omega) (by omega);rw[hDS];exact this
 have DSZ:=zq (show DS.size=ps.length from by rw[hDS,size_madeCells,t3,Nat.mul_one]);clear h2 h16 hDS t1 t2 t3 t4;have START:=zq (show wL w ps 0 (w.alloc (.cells DS 3)) DS from ⟨heap_alloc_new w _,DSZ.o,fun j hj=>by omega,Zb⟩)
 go_enter Tryz.func135,Tryz.ntmps135
 go_wp2_with fail
 clear hmk h2' h16'
 go_loopw [18] (fun i wr=>∃ (k:Nat) (DS:Array Value),k<=ps.length/\i=.int .i64 k/\Hid (uw ps k)/\Hid (wL w ps k wr DS)) (fun i _=>ps.length - (intOf i).toNat)
 case atStart=>exact⟨0,DS,Nat.zero_le _,rfl,zq (fun v p hv=>by omega),START⟩
 obtain⟨k,DS,hk,rfl,OK,DP⟩:=hrel;have ROW:=zq (HR.o.below DP.o.low);by_cases hlt:k<ps.length
 ·obtain⟨x,hx⟩:∃ x,ps[k]?=some x:=⟨_,List.getElem?_eq_getElem hlt⟩;obtain⟨b,o,rfl,hbl,hc⟩:=ROW.o.at_ hx;have c0:=hc 0 (.int .i64 x) rfl;rw[Nat.mul_one,Nat.add_zero] at c0;have hlt':(k:Int)<(ps.length:Int):=by omega
  have k0:(0:Int)<=(k:Int):=by omega
  have kb:(k:Int)<=15:=by have:=LB.o.2;omega
  have HX:=zq hx;have LT:=zq hlt;have BAD:=zq (show ¬ AP ps k x->¬ iD ps from fun hn ht=>hn (ht.ok k x HX.o));obtain⟨u,hu⟩:∃ u,DS[k]?=some u:=⟨_,Array.getElem?_eq_getElem (by rw[DP.o.size];exact hlt)⟩;have dk:=(cell_of_heap DP.o.blk k).trans hu;have fz:=aP DP.o.blk;clear hx hc hu;by_cases hm:x=-1
  ·have hb:(x==-1)=true:=by simp[hm]
   have OKA:=zq (show AP ps k x from Or.inl hm);have PL:=zq (show 1=(ig ps k).length from by rw[mF (by rw[HX.o,hm])];rfl);have NX:=zq (DP.o.next LT.o 1 PL.o);clear hm
   go_wp2_with fail
   go_roundw
   case rel=>exact⟨k+1,_,by have:=LT.o;omega,by go_num,zq (OK.o.next HX.o OKA.o),NX⟩
   case measure=>have:=LT.o;simp[intOf];omega
  have hb:(x==-1)=false:=by simp[hm]
  have HM:=zq hm;clear hm;by_cases h1:x<=1
  ·have NO:=zq (BAD.o (fun h=>by rcases h with h|h;exact HM.o h;omega))
   go_wp2_with fail
   go_ret2;exact jQ (by decide) NO.o DP.o.low
  by_cases h3:(k:Int)<=x
  ·have NO:=zq (BAD.o (fun h=>by rcases h with h|h;exact HM.o h;omega))
   go_wp2_with fail
   go_ret2;exact jQ (by decide) NO.o DP.o.low
  obtain⟨q,rfl⟩:=Int.eq_ofNat_of_zero_le (show 0<=x by omega);have hq:q<k:=by omega
  have hkk:¬ (k:Int)<=1:=by omega
  obtain⟨d,hd⟩:=Zn ((ig ps q).length);have dq:=(cell_of_heap DP.o.blk q).trans (DP.o.deep q hq);rw[<-hd] at dq;have q0:(0:Int)<=(q:Int):=by omega
  have q1:(q:Int)<(ps.length:Int):=by omega
  have PL:=zq (show d+1=(ig ps k).length from by
   rw[mG (OK.o.Ls HX.o (by omega) (by omega)) (Nat.lt_succ_self k) HX.o HM.o,List.length_cons,hd];rfl)
  clear hd;by_cases h4:4<=d
  ·have h4':(4:Int)<=(d:Int):=by omega
   have NO:=zq (BAD.o (fun h=>by rcases h with h|h;exact HM.o h;have:=PL.o;omega))
   go_wp2_with fail
   go_ret2;exact jQ (by decide) NO.o DP.o.low
  have h4':¬ (4:Int)<=(d:Int):=by omega
  have OKA:=zq (show AP ps k (q:Int) from Or.inr (by have:=PL.o;omega));have NX:=zq (DP.o.next LT.o (d+1) PL.o)
  go_wp2_with fail
  go_roundw
  case rel=>exact⟨k+1,_,by have:=LT.o;omega,by go_num,zq (OK.o.next HX.o OKA.o),NX⟩
  case measure=>have:=LT.o;simp[intOf];omega
 have hlt':¬ (k:Int)<(ps.length:Int):=by omega
 have YES:=zq (show iD ps from uw.tree (by have h:=OK.o;rwa [show k=ps.length from by omega] at h) LB.o.1 LB.o.2)
 go_wp2_with fail
 go_ret2;exact⟨0,0,rfl,⟨fun _=>YES.o,fun _=>rfl⟩,DP.o.low⟩
theorem NJ {ps:List Int} {n v:Nat} (hf:Falls ps n):∀ (v:Nat),v<n->(ig ps v).length<=v+1:=by
 intro v
 induction v using Nat.strongRecOn with
 | _ v ih =>
   intro hv
   cases hp:ps[v]? with
   | none=>unfold ig Oo;rw[hp];simp
   | some p =>
     by_cases h1:p=-1
     ·rw[mF (by rw[hp,h1])];simp
     rw[mG hf hv hp h1,List.length_cons];rcases hf v p hv hp with h2|h2
     ·exact absurd h2 h1
     have:=ih p.toNat (by omega) (by omega);omega
theorem IL (w:World) (v:Value) (ps:List Int) (hR:RowOf w 1 dw v ps) (hl:ps.length<=16) (n u:Nat) (hf:Falls ps n) (hu:u<n) (hn:n<=ps.length) :
 Calls Tryz.prog 112 #[v,.int .i64 (u:Nat)] w (qc w ((ig ps u).map fun x:Nat=>(x:Int))):=by
 obtain⟨a,c,rfl⟩:=hR.form;have HR:=zq hR;have HF:=zq hf;have HL:=zq hl;have HN:=zq (And.intro hu hn);obtain⟨PL,hPL⟩:=Zn (ig ps u);rw[<-hPL];have P0:=zq hPL;have PN:=zq (show PL.length<=ps.length from by rw[hPL];have:=NJ (v:=u) hf u hu;omega);clear hR hf hPL hl hu hn
 go_enter Tryz.func112,Tryz.ntmps112
 go_wp2_with fail
 go_loopw [5,6] (fun ov at_ wr=>∃ (cur:List Int) (x:Int) (left:List Nat),at_=.int .i64 x/\wr.ownsRow w.heap.size 3 1 ov cur.length (dR cur)/\Below w.heap.size w wr/\Hid (PL.map (fun x:Nat=>(x:Int))=cur++left.map (fun x:Nat=>(x:Int))/\((x=-1/\left=[])\/∃ q:Nat,x=q/\q<n/\left=ig ps q))) (fun _ at_ _=>(intOf at_+1).toNat)
 case atStart=>exact⟨[],(u:Nat),PL,rfl,World.ownsRow_nil _ _ _ _,Below.refl _ _,zq ⟨by simp,Or.inr ⟨u,rfl,HN.o.1,P0.o⟩⟩⟩
 obtain⟨cur,x,left,rfl,ho,hb,INV⟩:=hrel;obtain⟨ao,co,rfl,_⟩:=iP ho;have OW:=zq ho;have BW:=zq hb;have ROW:=zq (HR.o.below hb);clear ho hb;have hcl:cur.length<=ps.length:=by have h1:=congrArg List.length INV.o.1;have:=PN.o;simp at h1;omega
 have CL:=zq hcl;clear hcl;rcases INV.o.2 with ⟨hx,hleft⟩|⟨q,hx,hq,hleft⟩
 ·subst hx;have E:=zq (show PL.map (fun x:Nat=>(x:Int))=cur from by rw[INV.o.1,hleft];simp);clear hleft
  go_wp2_with fail
  go_ret;exact⟨_,rfl,by rw[E.o];exact OW.o,BW.o⟩
 subst hx;have hb1:((q:Int) != -1)=true:=by rw[bne_iff_ne];omega
 have hle:(cur.length:Int)<=(ps.length:Int):=by have:=CL.o;omega
 obtain⟨p,hp⟩:∃ p,ps[q]?=some p:=⟨_,Zg (by have:=HN.o.2;omega)⟩;have M1:=((Mod.refl (fun _=>False) wr).alloc (.cells #[.int .i64 (q:Nat)] 3));obtain⟨v3,w3,R3,O3,M3,N3⟩:=wI wr w.heap.size _ cur (q:Nat) wr.heap.size rfl OW.o BW.o.size (by have:=CL.o;have:=HL.o;omega);have R3':=zq R3;have O3':=zq O3;have B3:=zq (show Below w.heap.size w w3 from ((Mod.of_below BW.o).mono (T:=fun k=>w.heap.size<=k) (fun _ _ h=>h.elim)).trans M3 (fun k _ h=>(OW.o.lt k h).1) |>.mono (T:=fun _=>False) (fun k hk h=>by omega) |>.aU);obtain⟨b,o,rfl,hbl,hc⟩:=(HR.o.below B3.o).at_ hp;have c0:=hc 0 (.int .i64 p) rfl;rw[Nat.mul_one,Nat.add_zero] at c0;have q0:(0:Int)<=(q:Int):=by omega
 have q1:(q:Int)<(ps.length:Int):=by have:=HN.o.2;omega
 have HP:=zq hp;have HQ:=zq (And.intro hq hleft);clear R3 O3 M3 N3 M1 hp hc hq hleft;have NEXT:=zq (show PL.map (fun x:Nat=>(x:Int))=(cur++[(q:Int)])++(if p=-1 then [] else ig ps p.toNat).map (fun x:Nat=>(x:Int))/\(p=-1\/(0<=p/\p<q)) from by
  refine⟨?_,?_⟩
  ·rw[INV.o.1,HQ.o.2];by_cases h1:p=-1
   ·rw[if_pos h1,mF (by rw[HP.o,h1])];simp
   rw[if_neg h1,mG HF.o HQ.o.1 HP.o h1];simp
  exact HF.o q p HQ.o.1 HP.o)
 go_wp2_with (at_builtin;refine wpList_append_run rfl (.tmp 21) (.tmp 23) 28 rfl rfl rfl R3'.o ?_)
 go_roundw
 case rel=>exact⟨cur++[(q:Int)],p,(if p=-1 then [] else ig ps p.toNat),rfl,O3'.o,B3.o,zq ⟨NEXT.o.1,by
  rcases NEXT.o.2 with h|h
  ·exact Or.inl ⟨h,if_pos h⟩
  exact Or.inr ⟨p.toNat,by omega,by have:=HQ.o.1;omega,by rw[if_neg (by omega)]⟩⟩⟩
 case measure =>
  have:=NEXT.o.2;simp[intOf];omega
theorem xW (w:World) (v:Value) (ps:List Int) (hR:RowOf w 1 dw v ps) :
 Calls Tryz.prog 75 #[v] w (Ee w ps):=by
 obtain⟨a,c,rfl⟩:=hR.form;have HR:=zq hR;clear hR;by_cases h2:ps.length<2
 ·have BAD:=zq (show ¬ iD ps from fun h=>by have:=h.lo;omega);have h2':(ps.length:Int)<2:=by omega
  go_enter Tryz.func75,Tryz.ntmps75
  go_wp2_with fail
  go_ret2;exact jQ (by decide) BAD.o (Below.refl _ _)
 by_cases h16:16<ps.length
 ·have BAD:=zq (show ¬ iD ps from fun h=>by have:=h.hi;omega);have h2':¬ (ps.length:Int)<2:=by omega
  have h16':(16:Int)<(ps.length:Int):=by omega
  go_enter Tryz.func75,Tryz.ntmps75
  go_wp2_with fail
  go_ret2;exact jQ (by decide) BAD.o (Below.refl _ _)
 have h2':¬ (ps.length:Int)<2:=by omega
 have h16':¬ (16:Int)<(ps.length:Int):=by omega
 have LB:=zq (And.intro (Nat.le_of_not_lt h2) (Nat.le_of_not_lt h16));clear h2 h16
 go_enter Tryz.func75,Tryz.ntmps75
 go_wp2_with fail
 clear h2' h16'
 go_loopw [14] (fun i wr=>∃ (k:Nat),k<=ps.length/\i=.int .i64 k/\Hid (uw ps k)/\Below w.heap.size w wr) (fun i _=>ps.length - (intOf i).toNat)
 case atStart=>exact⟨0,Nat.zero_le _,rfl,zq (fun v p hv=>by omega),Below.refl _ _⟩
 obtain⟨k,hk,rfl,OK,hb0⟩:=hrel;have BW:=zq hb0;have ROW:=zq (HR.o.below hb0);clear hb0;by_cases hlt:k<ps.length
 ·obtain⟨x,hx⟩:∃ x,ps[k]?=some x:=⟨_,List.getElem?_eq_getElem hlt⟩;obtain⟨b,o,rfl,hbl,hc⟩:=ROW.o.at_ hx;have c0:=hc 0 (.int .i64 x) rfl;rw[Nat.mul_one,Nat.add_zero] at c0;have hlt':(k:Int)<(ps.length:Int):=by omega
  have k0:(0:Int)<=(k:Int):=by omega
  have kb:(k:Int)<=15:=by have:=LB.o.2;omega
  have HX:=zq hx;have LT:=zq hlt;have BAD:=zq (show ¬ AP ps k x->¬ iD ps from fun hn ht=>hn (ht.ok k x HX.o));clear hx hc;by_cases hm:x=-1
  ·have hb:(x==-1)=true:=by simp[hm]
   have OKA:=zq (show AP ps k x from Or.inl hm);clear hm
   go_wp2_with fail
   go_roundw
   case rel=>exact⟨k+1,by have:=LT.o;omega,by go_num,zq (OK.o.next HX.o OKA.o),BW.o⟩
   case measure=>have:=LT.o;simp[intOf];omega
  have hb:(x==-1)=false:=by simp[hm]
  have HM:=zq hm;clear hm;by_cases h0:(k:Int)<2
  ·have NO:=zq (BAD.o (fun h=>by rcases h with h|h;exact HM.o h;omega))
   go_wp2_with fail
   go_ret2;exact jQ (by decide) NO.o BW.o
  by_cases h1:x<2
  ·have NO:=zq (BAD.o (fun h=>by rcases h with h|h;exact HM.o h;omega))
   go_wp2_with fail
   go_ret2;exact jQ (by decide) NO.o BW.o
  by_cases h3:(k:Int)<=x
  ·have NO:=zq (BAD.o (fun h=>by rcases h with h|h;exact HM.o h;omega))
   go_wp2_with fail
   go_ret2;exact jQ (by decide) NO.o BW.o
  have UP:=zq (IL wr _ ps ROW.o LB.o.2 (k+1) k (OK.o.Ls HX.o (by omega) (by omega)) (Nat.lt_succ_self k) (by omega));obtain⟨d,hd⟩:=Zn ((ig ps k).length);have HD:=zq hd;clear hd;have XB:=zq (And.intro (Int.not_lt.1 h1) (Int.not_le.1 h3));have KB:=zq (Int.not_lt.1 h0)
  go_wp2_with fail
  refine UP.o.mono ?_;rintro e w2 ⟨v2,rfl,ho2,hb2⟩;rw[List.length_map,<-HD.o] at ho2;obtain⟨a2,c2,rfl,_⟩:=iP ho2;have B2:=zq (BW.o.trans (hb2.mono BW.o.size));clear ho2 hb2;by_cases h4:4<d
  ·have h4':(4:Int)<(d:Int):=by omega
   have NO:=zq (BAD.o (fun h=>by rcases h with h|h;exact HM.o h;have:=HD.o;omega))
   go_wp2_with fail
   go_ret2;exact jQ (by decide) NO.o B2.o
  have h4':¬ (4:Int)<(d:Int):=by omega
  have OKA:=zq (show AP ps k x from Or.inr (by have:=HD.o;have:=XB.o;have:=KB.o;omega))
  go_wp2_with fail
  go_roundw
  case rel=>exact⟨k+1,by have:=LT.o;omega,by go_num,zq (OK.o.next HX.o OKA.o),B2.o⟩
  case measure=>have:=LT.o;simp[intOf];omega
 have hlt':¬ (k:Int)<(ps.length:Int):=by omega
 have YES:=zq (show iD ps from uw.tree (by have h:=OK.o;rwa [show k=ps.length from by omega] at h) LB.o.1 LB.o.2)
 go_wp2_with fail
 go_ret2;exact⟨0,0,rfl,⟨fun _=>YES.o,fun _=>rfl⟩,BW.o⟩
def inB (x lo hi:Int):Bool:=decide (lo<=x/\x<=hi)
theorem bg {x lo hi:Int}:inB x lo hi=true↔lo<=x/\x<=hi:=by simp[inB]
theorem gV {x lo hi:Int}:inB x lo hi=false↔¬ (lo<=x/\x<=hi):=by simp only[inB,decide_eq_false_iff_not]
theorem Hz (x lo hi:Int) (w:World):Calls Tryz.prog 70 #[.int .i64 x,.int .i64 lo,.int .i64 hi] w fun e w'=>e=.returned (.bool (inB x lo hi))/\w=w':=by
 obtain⟨r,hr⟩:=Zn (inB x lo hi);rw[<-hr];have ch:¬ lo<=x\/(lo<=x/\¬ x<=hi)\/(lo<=x/\x<=hi):=by omega
 rcases ch with h1|⟨h1,h2⟩|⟨h1,h2⟩
 all_goals
  first
  | (have R:=zq (show r=true from by rw[hr];exact decide_eq_true (by omega)))
  | (have R:=zq (show r=false from by rw[hr];exact Zf (by omega)))
  clear hr
  go_enter Tryz.func70,Tryz.ntmps70
  go_wp2_with fail
  go_ret;refine⟨aj ?_,rfl⟩
  first|(rw[R.o];done)|(rw[R.o];simp;done)|(rw[R.o];simp;omega)
theorem aS {x lo hi:Int} {b:Bool} (h:inB x lo hi=b) (w:World):Calls Tryz.prog 70 #[.int .i64 x,.int .i64 lo,.int .i64 hi] w fun e w'=>e=.returned (.bool b)/\w=w':=by
 rw[<-h];exact Hz x lo hi w
theorem dropWhile_nil {α:Type} (p:α->Bool):∀ l:List α,l.dropWhile p=[]↔∀ x∈l,p x=true
 | []=>by simp
 | x::l=>by
   cases h:p x with
   | true=>rw[List.dropWhile_cons_of_pos h,dropWhile_nil p l];simp[h]
   | false=>rw[List.dropWhile_cons_of_neg (by simp[h])];simp[h]
theorem Oi (l cs:List UInt8):Lib.trimS l cs=[]↔∀ x∈l,cs.contains x=true:=by
 unfold Lib.trimS Lib.trimLeftS Lib.trimRightS;rw[dropWhile_nil]
 constructor
 ·intro h;have h2:l.reverse.dropWhile (cs.contains ·)=[]:=by
   cases hd:l.reverse.dropWhile (cs.contains ·) with
   | nil=>rfl
   | cons y r =>
     have h3:=h y (by rw[hd];simp);have h4:=List.head?_dropWhile_not (cs.contains ·) l.reverse;rw[hd] at h4
     simp only[List.head?_cons] at h4
     rw[h3] at h4;simp at h4
  rw[dropWhile_nil] at h2;intro x hx;exact h2 x (by simpa using hx)
 intro h x hx;have:x∈l.reverse.dropWhile (cs.contains ·):=by simpa using hx
 exact h x (by have:=(List.dropWhile_sublist _).subset this;simpa using this)
def upper:ByteArray:=⟨#[65,66,67,68,69,70,71,72,73,74,75,76,77,78,79,80,81,82,83,84,85,86,87,88,89,90]⟩
theorem zK (c:UInt8):upper.data.toList.contains c=decide (65<=c.toNat/\c.toNat<=90):=by
 have h:∀ k:Fin 256,upper.data.toList.contains (UInt8.ofNat k.val)=decide (65<=k.val/\k.val<=90):=by decide +kernel
 have:=h ⟨c.toNat,c.toNat_lt⟩
 simpa using this
theorem Nu (s:ByteArray):nameB s=(decide (1<=s.size/\s.size<=8)&&decide (Lib.trimS s.data.toList upper.data.toList=[])):=by
 unfold nameB
 congr 1
 rw[Bool.eq_iff_iff,decide_eq_true_iff,Oi,List.all_eq_true]
 constructor
 ·intro h x hx;rw[zK];exact h x hx
 intro h x hx;have:=h x hx;rw[zK] at this;exact this
theorem name_any (s:ByteArray) (hs:s.size<=maxLen) (w:World):Calls Tryz.prog 50 #[.string s] w fun e w'=>e=.returned (.bool (nameB s))/\Below w.heap.size w w':=by
 obtain⟨r,hr⟩:=Zn (nameB s);rw[<-hr];rw[Nu] at hr;by_cases h0:s.size=0
 ·have R:=zq (show r=false from by rw[hr,Zf (by omega)];rfl);have hl:s.toList.isEmpty=true:=by rw[ByteArray.toList_eq];simpa [Array.toList_eq_nil_iff,<-Array.size_eq_zero_iff] using h0
  have hl2:s.toList=[]:=by simpa using hl
  clear hr
  go_enter Tryz.func50,Tryz.ntmps50
  go_wp2_with fail
  go_ret;refine⟨aj ?_,Below.refl _ _⟩
  first|(rw[R.o];done)|(rw[R.o];simp;done)
 have hl:s.toList.isEmpty=false:=by
  rw[ByteArray.toList_eq]
  cases h:s.data.toList with
  | nil=>exact absurd (show s.size=0 from by have:=congrArg List.length h;simpa using this) h0
  | cons x r=>rfl
 by_cases h8:s.size<=8
 case neg =>
  have R:=zq (show r=false from by rw[hr,Zf (by omega)];rfl);have h8':¬ (s.size:Int)<=8:=by omega
  clear hr
  go_enter Tryz.func50,Tryz.ntmps50
  go_wp2_with fail
  go_ret;refine⟨aj ?_,Below.refl _ _⟩
  first|(rw[R.o];done)|(rw[R.o];simp;done)
 have h8':(s.size:Int)<=8:=by omega
 rw[decide_eq_true (by omega),Bool.true_and] at hr;have TR:=Tryz.lib_trim s upper w (by unfold maxLen at hs;omega) (by decide) (ascii_of_all (by decide));obtain⟨T,hT⟩:∃ T:ByteArray,T=⟨(Lib.trimS s.data.toList upper.data.toList).toArray⟩:=⟨_,rfl⟩;rw[<-hT] at TR;have TRh:=zq TR;have hTl:T.toList=Lib.trimS s.data.toList upper.data.toList:=by rw[ByteArray.toList_eq,hT]
 unfold upper at TRh;clear TR hs
 cases ht:T.toList with
 | nil =>
   have R:=zq (show r=true from by rw[hr,<-hTl,ht];rfl);have ht2:T.toList.isEmpty=true:=by rw[ht];rfl
   clear hr hTl hT
   go_enter Tryz.func50,Tryz.ntmps50
   go_wp2_with fail
   refine TRh.o.mono ?_;rintro e w' ⟨rfl,hb⟩;have B:=zq hb;clear hb
   go_wp2_with fail
   go_ret;refine⟨aj ?_,B.o⟩
   first|(rw[R.o];done)|(rw[R.o];simp;done)
 | cons y ys =>
   have R:=zq (show r=false from by rw[hr,<-hTl,ht];rfl);have ht2:T.toList.isEmpty=false:=by rw[ht];rfl
   clear hr hTl hT ht
   go_enter Tryz.func50,Tryz.ntmps50
   go_wp2_with fail
   refine TRh.o.mono ?_;rintro e w' ⟨rfl,hb⟩;have B:=zq hb;clear hb
   go_wp2_with fail
   go_ret;refine⟨aj ?_,B.o⟩
   first|(rw[R.o];done)|(rw[R.o];simp;done)|trace_state
theorem J5 (s:ByteArray) (hs:s.size<=maxLen) (w:World):Calls Tryz.prog 52 #[.string s] w fun e w'=>e=.returned (.bool (nameB s))/\w=w':=by
 obtain⟨r,hr⟩:=Zn (nameB s);rw[<-hr];have HR:=zq hr;have hsz:s.size<=9223372036854775807:=by unfold maxLen at hs;omega
 clear hr hs
 go_enter Tryz.func52,Tryz.ntmps52
 go_wp2_with fail
 go_loop [3] (fun i=>∃ k:Nat,k<=s.size/\i=.int .i64 k/\Hid (∀ (j:Nat) (c:UInt8),j<k->s.data.toList[j]?=some c->65<=c.toNat/\c.toNat<=90)) (fun i=>s.size - (intOf i).toNat)
 case atStart=>exact⟨0,Nat.zero_le _,rfl,zq (fun j c hj=>by omega)⟩
 obtain⟨k,hk,rfl,INV⟩:=hrel;by_cases hlt:k<s.size
 ·have hlt':(k:Int)<(s.size:Int):=by omega
  have HC:=zq (show s.data.toList[k]?=some s[k] from by simp[ByteArray.getElem_eq_getElem_data,hlt]);have LT:=zq hlt;by_cases h1:(s[k].toNat:Int)<65
  ·have R:=zq (show r=false from by
    rw[HR.o];unfold nameB;rw[List.all_eq_false.2 ⟨s[k],List.mem_of_getElem? HC.o,by simp;omega⟩,Bool.and_false])
   go_wp2_with fail
   go_ret;exact⟨aj R.o.symm,rfl⟩
  by_cases h2:(90:Int)<(s[k].toNat:Int)
  ·have R:=zq (show r=false from by
    rw[HR.o];unfold nameB;rw[List.all_eq_false.2 ⟨s[k],List.mem_of_getElem? HC.o,by simp;omega⟩,Bool.and_false])
   go_wp2_with fail
   go_ret;exact⟨aj R.o.symm,rfl⟩
  have YES:=zq (show 65<=s[k].toNat/\s[k].toNat<=90 from by omega)
  go_wp2_with fail
  go_round
  case rel=>exact⟨k+1,by have:=LT.o;omega,by go_num,zq (fun j c hj hc=>by
   by_cases e:j=k
   ·subst e;have h:=HC.o;rw[hc] at h;cases h;exact YES.o
   exact INV.o j c (by omega) hc)⟩
  case measure=>have:=LT.o;simp[intOf];omega
 have hlt':¬ (k:Int)<(s.size:Int):=by omega
 have ALL:=zq (show (s.data.toList.all fun c=>decide (65<=c.toNat/\c.toNat<=90))=true from by
  rw[List.all_eq_true];intro c hc;obtain⟨j,hj,e⟩:=List.mem_iff_getElem.1 hc;exact decide_eq_true (INV.o j c (by simp at hj;have:s.data.size=s.size:=rfl;omega) (by rw[<-e];exact List.getElem?_eq_getElem hj)))
 have R:=zq (show r=decide (1<=s.size/\s.size<=8) from by rw[HR.o];unfold nameB;rw[ALL.o,Bool.and_true]);have ch:¬ (1:Int)<=(s.size:Int)\/((1:Int)<=(s.size:Int)/\¬ (s.size:Int)<=8)\/((1:Int)<=(s.size:Int)/\(s.size:Int)<=8):=by omega
 rcases ch with g1|⟨g1,g2⟩|⟨g1,g2⟩
 all_goals
  first
  | (have R2:=zq (R.o.trans (decide_eq_true (by omega))))
  | (have R2:=zq (R.o.trans (Zf (by omega))))
  go_wp2_with fail
  go_ret;refine⟨aj ?_,rfl⟩
  first|(rw[R2.o];done)|(rw[R2.o];simp;done)|(rw[R2.o];simp;omega)
theorem Dh (x lo hi:Int) (w:World):Calls Tryz.prog 166 #[.int .i64 x,.int .i64 lo,.int .i64 hi] w fun e w'=>e=.returned (.bool (inB x lo hi))/\w=w':=by
 obtain⟨r,hr⟩:=Zn (inB x lo hi);rw[<-hr];have ch:¬ lo<=x\/(lo<=x/\¬ x<=hi)\/(lo<=x/\x<=hi):=by omega
 rcases ch with h1|⟨h1,h2⟩|⟨h1,h2⟩
 all_goals
  first
  | (have R:=zq (show r=true from by rw[hr];exact decide_eq_true (by omega)))
  | (have R:=zq (show r=false from by rw[hr];exact Zf (by omega)))
  clear hr
  go_enter Tryz.func166,Tryz.ntmps166
  go_wp2_with fail
  go_ret;refine⟨aj ?_,rfl⟩
  first|(rw[R.o];done)|(rw[R.o];simp;done)|(rw[R.o];simp;omega)
theorem jG {x lo hi:Int} {b:Bool} (h:inB x lo hi=b) (w:World):Calls Tryz.prog 166 #[.int .i64 x,.int .i64 lo,.int .i64 hi] w fun e w'=>e=.returned (.bool b)/\w=w':=by
 rw[<-h];exact Dh x lo hi w
theorem tV (x:Int) (w:World):Calls Tryz.prog 188 #[.int .i64 x,.int .i64 0] w fun e w'=>e=.returned (.int .i64 x)/\w=w':=by
 go_enter Tryz.func188,Tryz.ntmps188
 go_wp2_with fail
 go_ret;exact⟨rfl,rfl⟩
theorem CZ (p:Value) (w:World):Calls Tryz.prog 187 #[p,.nilIface] w fun e w'=>e=.returned (.tuple #[])/\w=w':=by
 go_enter Tryz.func187,Tryz.ntmps187
 go_wp2_with fail
 go_end0
 exact⟨rfl,rfl⟩
theorem uV (pe px:Nat) (w:World) (he:w.cell? ⟨pe,0,none⟩=some (.int .i64 0)) :
 CallsD Tryz.prog 186 #[.pointer (some ⟨pe,0,none⟩),.pointer (some ⟨px,0,none⟩)] .returning w fun e u' w'=>e=.returned (.tuple #[])/\u'=.returning/\w'=w:=by
 refine callsD_of_wpS Tryz.func186 rfl fun c₀ cs hu=>?_
 apply wpS_seq
 apply wpS_region
 simp[wpOpsS,go_sem,recoverD,hu,Tryz.ntmps186,Exit.thenS];refine (CZ _ w).mono ?_;rintro e w' ⟨rfl,rfl⟩
 apply wpS_seq
 apply wpS_region
 simp[wpOpsS,go_sem,he,Exit.thenS];refine wpS_cond (t:=false) (by simp[Act.eval]) ?_
 simp only[Bool.false_eq_true,if_false]
 refine wpS_of_wp (wp_skip ?_)
 cases c₀
 simp_all [bodyPostS,results,Tryz.results186]
structure Ei (w0 w:World) (x e:Int):Prop where
 a:w.heap[w0.heap.size]?=some (.cells #[.int .i64 x] 3 (0,0))
 b:w.heap[w0.heap.size+1]?=some (.cells #[.int .i64 e] 35 (0,0))
 low:Below w0.heap.size w0 w
theorem Ei.drewN {w0 w:World} {x e:Int} (h:Ei w0 w x e) (n:Nat):Ei w0 (w.drewN n) x e :=
 ⟨((Mod.refl (fun _=>False) w).drewN n).heap h.a (fun h=>h),((Mod.refl (fun _=>False) w).drewN n).heap h.b (fun h=>h),below_drewN h.low n⟩
theorem Ei.set {w0 w:World} {x e:Int} (h:Ei w0 w x e) (y f:Int):Ei w0 ((w.setCell ⟨w0.heap.size,0,none⟩ (.int .i64 y)).setCell ⟨w0.heap.size+1,0,none⟩ (.int .i64 f)) y f:=by
 have h1:=bC h.a 0 (.int .i64 y);have h2:(w.setCell ⟨w0.heap.size,0,none⟩ (.int .i64 y)).heap[w0.heap.size+1]?=_:=(Below.heap_setCell w ⟨w0.heap.size,0,none⟩ (.int .i64 y) (w0.heap.size+1) (by simp)).trans h.b;have h3:=bC h2 0 (.int .i64 f);refine⟨(Below.heap_setCell _ ⟨w0.heap.size+1,0,none⟩ (.int .i64 f) w0.heap.size (by simp)).trans (by simpa using h1),by simpa using h3,(h.low.setCell (Nat.le_refl _) _).setCell (Nat.le_succ _) _⟩
theorem FV (call:Bool) (strike price cZ days:Int) (s0:0<=strike) (s1:strike<=1000000000000) (p0:0<=price) (p1:price<=1200000000000) (v0:0<=cZ) (v1:cZ<=62500) (d0:-100000<=days) (d1:days<=100000) (w:World) :
 Calls Tryz.prog 167 #[.bool call,.int .i64 strike,.int .i64 price,.int .i64 cZ,.int .i64 days] w fun e w'=>e=.returned (.tuple #[.int .i64 (valueA call strike price cZ days).1,.int .i64 0])/\Below w.heap.size w w':=by
 obtain⟨R,hR⟩:=Zn ((valueA call strike price cZ days).1);rw[<-hR];have EQ:=zq hR;have I1:=zq (fun W=>jG (x:=strike) (lo:=0) (hi:=100000000000000) (bg.2 (by omega)) W);have I2:=zq (fun W=>jG (x:=price) (lo:=0) (hi:=100000000000000) (bg.2 (by omega)) W);have I3:=zq (fun W=>jG (x:=cZ) (lo:=0) (hi:=100000000000000) (bg.2 (by omega)) W);have RES:=zq (show ∃ W,W=(w.alloc (.cells #[.int .i64 0] 3)).alloc (.cells #[.int .i64 0] 35)/\Ei w W 0 0 from
  ⟨_,rfl,(Below.heap_alloc _ _ _ (by simp)).trans (heap_alloc_new w _),by have:=heap_alloc_new (w.alloc (.cells #[.int .i64 0] 3)) (.cells #[.int .i64 0] 35);simpa using this,(Zb).alloc (by simp) _⟩)
 clear hR;by_cases hd:days<=0
 ·obtain⟨g,hg⟩:=Zn (max (if call then price - strike else strike - price) 0);have RG:=zq (show R=g from by rw[EQ.o,hg];unfold valueA;rw[if_neg (by omega),if_pos hd]);have GG:=zq hg;clear hg
  cases call
  all_goals
   go_enter_defers Tryz.func167,Tryz.ntmps167
   go_wp2_with fail
   obtain⟨W,hW,hres⟩:=RES.o;rw[<-hW];have RS:=zq hres;clear hW hres RES;refine (I1.o W).mono ?_;rintro e w' ⟨rfl,rfl⟩
   go_wp2_with fail
   refine (I2.o _).mono ?_;rintro e w' ⟨rfl,rfl⟩
   go_wp2_with fail
   refine (I3.o _).mono ?_;rintro e w' ⟨rfl,rfl⟩;have k0:=cell_of_heap RS.o.a 0;have k1:=cell_of_heap RS.o.b 0;have z0:=aP RS.o.a 0;have z1:=aP RS.o.b 0
   go_wp2_with fail
   first
   | (have RS2:=RS.o.set (max (price - strike) 0) 0
      obtain⟨W2,hW2⟩:=Zn ((W.setCell ⟨w.heap.size,0,none⟩ (.int .i64 (max (price - strike) 0))).setCell ⟨w.heap.size+1,0,none⟩ (.int .i64 0));rw[<-hW2] at RS2 ⊢;have GV:=zq (show R=max (price - strike) 0 from by rw[RG.o,GG.o];rfl))
   | (have RS2:=RS.o.set (max (-(price - strike)) 0) 0
      obtain⟨W2,hW2⟩:=Zn ((W.setCell ⟨w.heap.size,0,none⟩ (.int .i64 (max (-(price - strike)) 0))).setCell ⟨w.heap.size+1,0,none⟩ (.int .i64 0));rw[<-hW2] at RS2 ⊢;have GV:=zq (show R=max (-(price - strike)) 0 from by rw[RG.o,GG.o];show max (strike - price) 0=_;rw[show strike - price=-(price - strike) by omega]))
   clear hW2 k0 k1 z0 z1;have j0:=cell_of_heap RS2.a 0;have j1:=cell_of_heap RS2.b 0;have BB:=zq RS2.low;have E1:=GV.o;refine leaves_cons (f := 186) (args:=#[.pointer (some ⟨w.heap.size+1,0,none⟩),.pointer (some ⟨w.heap.size,0,none⟩)]) (by simp) (by simp[go_sem]) ?_;refine (uV (w.heap.size+1) w.heap.size W2 j1).mono ?_;rintro e u' w9 ⟨rfl,rfl,rfl⟩;simp[Leaves,settle,results,Tryz.results167,go_sem,j0,j1];exact⟨E1.symm,BB.o⟩
 have m1:=qC v0 (show 0<=days by omega) v1 d1;have m0:0<=cZ*days:=Int.mul_nonneg v0 (by omega);have e1:fG cZ days=(cZ*days,0):=by
  rw[lF,if_pos ⟨aF.2 (by omega),aF.2 (by omega),aF.2 (by omega)⟩]
 have m2:=qC s0 m0 s1 (show cZ*days<=6250000000 by omega);obtain⟨e2,h0,h1⟩:=nV strike (cZ*days) 3650000 1800000000000000 s0 m0 (by omega) (by omega) (by omega) (by omega) (by omega) (by omega);have FM:=zq (fun W=>Bz cZ days ⟨by omega,by omega⟩ ⟨by omega,by omega⟩ W);have FD:=zq (fun W=>lu strike (cZ*days) 3650000 0 ⟨by omega,by omega⟩ ⟨by omega,by omega⟩ ⟨by omega,by omega⟩ W);rw[e1] at FM;rw[e2] at FD;have EV:=zq (show valueA call strike price cZ days=dQ (max (if call then price - strike else strike - price) 0) (max (strike*(cZ*days) / 3650000 - ((price - strike).natAbs:Int) / 2) 0) from by
  unfold valueA;rw[if_neg (by omega),if_neg hd,if_neg (by omega),e1,if_neg (by simp)];simp only;rw[e2,if_neg (by simp)])
 obtain⟨M,hM⟩:=Zn (cZ*days);obtain⟨t,ht⟩:=Zn (strike*(cZ*days) / 3650000);rw[<-ht] at h0 h1 FD EV;rw[<-hM] at FM FD;clear hM ht e1 e2 m0 m1 m2;have hd':¬ 100000<days:=by omega
 cases call
 all_goals
  go_enter_defers Tryz.func167,Tryz.ntmps167
  go_wp2_with fail
  obtain⟨W,hW,hres⟩:=RES.o;rw[<-hW];have RS:=zq hres;clear hW hres RES;refine (I1.o W).mono ?_;rintro e w' ⟨rfl,rfl⟩
  go_wp2_with fail
  refine (I2.o _).mono ?_;rintro e w' ⟨rfl,rfl⟩
  go_wp2_with fail
  refine (I3.o _).mono ?_;rintro e w' ⟨rfl,rfl⟩
  go_wp2_with fail
  refine (FM.o _).mono ?_;rintro e w' ⟨rfl,rfl⟩
  go_wp2_with fail
  refine (tV _ _).mono ?_;rintro e w' ⟨rfl,rfl⟩
  go_wp2_with fail
  refine (FD.o _).mono ?_;rintro e w' ⟨rfl,n,rfl⟩;have RS2:=zq (RS.o.drewN n);generalize W.drewN n=W1 at RS2 ⊢
  go_wp2_with fail
  refine (tV _ _).mono ?_;rintro e w' ⟨rfl,rfl⟩
  go_wp2_with fail
 ·skip;have e3:((price - strike).natAbs:Int)=max (-(price - strike)) (price - strike):=by omega
  have e4:(if false=true then price - strike else strike - price)=-(price - strike):=by simp;omega
  obtain⟨A,hA⟩:=Zn (max (-(price - strike)) 0);obtain⟨B,hB⟩:=Zn (max (t - max (-(price - strike)) (price - strike) / 2) 0);have a0:0<=A/\A<=1200000000000:=by omega
  have b0:0<=B/\B<=1800000000000000:=by omega
  have FA:=zq (fun W=>lZ A B ⟨by omega,by omega⟩ ⟨by omega,by omega⟩ W);have ea:dQ A B=(A+B,0):=oC (aF.2 (by omega)) (aF.2 (by omega)) (aF.2 (by omega));rw[ea] at FA;have GV:=zq (show R=A+B from by
  have ev:=EV.o;rw[e3] at ev
  first|rw[e4] at ev|rw[if_pos trivial] at ev
  rw[EQ.o,ev,<-hA,<-hB,ea])
  rw[<-hA,<-hB];clear EV hA hB e3 e4 ea;refine (FA.o _).mono ?_;rintro e w' ⟨rfl,rfl⟩
  go_wp2_with fail
  refine (tV _ _).mono ?_;rintro e w' ⟨rfl,rfl⟩;have k0:=cell_of_heap RS2.o.a 0;have k1:=cell_of_heap RS2.o.b 0;have z0:=aP RS2.o.a 0;have z1:=aP RS2.o.b 0
  go_wp2_with fail
  have RS3:=RS2.o.set (A+B) 0;obtain⟨W2,hW2⟩:=Zn ((W1.setCell ⟨w.heap.size,0,none⟩ (.int .i64 (A+B))).setCell ⟨w.heap.size+1,0,none⟩ (.int .i64 0));rw[<-hW2] at RS3 ⊢;clear hW2 k0 k1 z0 z1;have j0:=cell_of_heap RS3.a 0;have j1:=cell_of_heap RS3.b 0;have BB:=zq RS3.low;have E1:=GV.o;refine leaves_cons (f := 186) (args:=#[.pointer (some ⟨w.heap.size+1,0,none⟩),.pointer (some ⟨w.heap.size,0,none⟩)]) (by simp) (by simp[go_sem]) ?_;refine (uV (w.heap.size+1) w.heap.size W2 j1).mono ?_;rintro e u' w9 ⟨rfl,rfl,rfl⟩;simp[Leaves,settle,results,Tryz.results167,go_sem,j0,j1];exact⟨E1.symm,BB.o⟩
 skip;have e3:((price - strike).natAbs:Int)=max (price - strike) (-(price - strike)):=by omega
 have e4:(if true=true then price - strike else strike - price)=price - strike:=by simp
 obtain⟨A,hA⟩:=Zn (max (price - strike) 0);obtain⟨B,hB⟩:=Zn (max (t - max (price - strike) (-(price - strike)) / 2) 0);have a0:0<=A/\A<=1200000000000:=by omega
 have b0:0<=B/\B<=1800000000000000:=by omega
 have FA:=zq (fun W=>lZ A B ⟨by omega,by omega⟩ ⟨by omega,by omega⟩ W);have ea:dQ A B=(A+B,0):=oC (aF.2 (by omega)) (aF.2 (by omega)) (aF.2 (by omega));rw[ea] at FA;have GV:=zq (show R=A+B from by
 have ev:=EV.o;rw[e3] at ev
 first|rw[e4] at ev|rw[if_pos trivial] at ev
 rw[EQ.o,ev,<-hA,<-hB,ea])
 rw[<-hA,<-hB];clear EV hA hB e3 e4 ea;refine (FA.o _).mono ?_;rintro e w' ⟨rfl,rfl⟩
 go_wp2_with fail
 refine (tV _ _).mono ?_;rintro e w' ⟨rfl,rfl⟩;have k0:=cell_of_heap RS2.o.a 0;have k1:=cell_of_heap RS2.o.b 0;have z0:=aP RS2.o.a 0;have z1:=aP RS2.o.b 0
 go_wp2_with fail
 have RS3:=RS2.o.set (A+B) 0;obtain⟨W2,hW2⟩:=Zn ((W1.setCell ⟨w.heap.size,0,none⟩ (.int .i64 (A+B))).setCell ⟨w.heap.size+1,0,none⟩ (.int .i64 0));rw[<-hW2] at RS3 ⊢;clear hW2 k0 k1 z0 z1;have j0:=cell_of_heap RS3.a 0;have j1:=cell_of_heap RS3.b 0;have BB:=zq RS3.low;have E1:=GV.o;refine leaves_cons (f := 186) (args:=#[.pointer (some ⟨w.heap.size+1,0,none⟩),.pointer (some ⟨w.heap.size,0,none⟩)]) (by simp) (by simp[go_sem]) ?_;refine (uV (w.heap.size+1) w.heap.size W2 j1).mono ?_;rintro e u' w9 ⟨rfl,rfl,rfl⟩;simp[Leaves,settle,results,Tryz.results167,go_sem,j0,j1];exact⟨E1.symm,BB.o⟩
theorem JQ (i:Ins) (n:Nat) (hi:i.Ok n) (price cZ day:Int) (p0:0<=price) (p1:price<=1200000000000) (v0:0<=cZ) (v1:cZ<=62500) (d0:0<=day) (d1:day<=100000) (w:World) :
 Calls Tryz.prog 129 #[.agg #[.int .i64 i.kind,.int .i64 i.under,.int .i64 i.mult,.int .i64 i.strike,.int .i64 i.aN,.bool i.call,.int .i64 i.mark],.int .i64 price,.int .i64 cZ,.int .i64 day] w fun e w'=>e=.returned (.tuple #[.int .i64 (pK i price cZ day).1,.int .i64 0])/\Below w.heap.size w w':=by
 obtain⟨R,hR⟩:=Zn ((pK i price cZ day).1);rw[<-hR];obtain⟨_,_,_,_,_,_,hk⟩:=hi;have EQ:=zq hR;have I1:=zq (fun W=>jG (x:=price) (lo:=0) (hi:=100000000000000) (bg.2 (by omega)) W);have I2:=zq (fun W=>jG (x:=cZ) (lo:=0) (hi:=100000000000000) (bg.2 (by omega)) W);have I3:=zq (fun W=>jG (x:=day) (lo:=0) (hi:=100000) (bg.2 (by omega)) W);have B0:=zq ((Below.refl w.heap.size w).alloc (Nat.le_refl _) (.cells #[.int .i64 i.kind,.int .i64 i.under,.int .i64 i.mult,.int .i64 i.strike,.int .i64 i.aN,.bool i.call,.int .i64 i.mark] 66));clear hR;by_cases h3:i.kind=3
 ·have hk3:1<=i.strike/\i.strike<=1000000000000/\1<=i.aN/\i.aN<=100000:=by
   rcases hk with h|h|h
   ·omega
   ·omega
   exact h.2
  obtain⟨s0,s1,e0,e1⟩:=hk3;have I4:=zq (fun W=>jG (x:=i.aN) (lo:=0) (hi:=100000) (bg.2 (by omega)) W);have VA:=zq (fun W=>FV i.call i.strike price cZ (i.aN - day) (by omega) s1 p0 p1 v0 v1 (by omega) (by omega) W);have EV:=zq (show R=(valueA i.call i.strike price cZ (i.aN - day)).1 from by
   rw[EQ.o];unfold pK;rw[if_neg (by omega),if_neg (by omega),if_neg (by simp[h3]),if_neg (by omega)])
  rw[<-EV.o] at VA;have g1:¬ i.kind<1:=by omega
  have g2:¬ 3<i.kind:=by omega
  have g3:(i.kind==3)=true:=beq_iff_eq.2 h3;have g4:(i.kind != 3)=false:=by rw[bne,g3];rfl
  clear h3 hk
  go_enter Tryz.func129,Tryz.ntmps129
  go_wp2_with fail
  refine (I1.o _).mono ?_;rintro e w' ⟨rfl,rfl⟩
  go_wp2_with fail
  refine (I2.o _).mono ?_;rintro e w' ⟨rfl,rfl⟩
  go_wp2_with fail
  refine (I3.o _).mono ?_;rintro e w' ⟨rfl,rfl⟩
  go_wp2_with fail
  refine (I4.o _).mono ?_;rintro e w' ⟨rfl,rfl⟩
  go_wp2_with fail
  refine (VA.o _).mono ?_;rintro e w' ⟨rfl,hb⟩;have B1:=zq (B0.o.trans (hb.mono (by simp)));clear hb
  go_wp2_with fail
  go_ret2;exact⟨rfl,B1.o⟩
 have RV:=zq (show R=price from by rw[EQ.o];unfold pK;rw[if_neg (by omega),if_neg (by omega),if_pos h3]);have g1:¬ i.kind<1:=by omega
 have g2:¬ 3<i.kind:=by omega
 have g3:(i.kind==3)=false:=beq_eq_false_iff_ne.2 h3;have g4:(i.kind != 3)=true:=by rw[bne,g3];rfl
 clear h3 hk
 go_enter Tryz.func129,Tryz.ntmps129
 go_wp2_with fail
 refine (I1.o _).mono ?_;rintro e w' ⟨rfl,rfl⟩
 go_wp2_with fail
 refine (I2.o _).mono ?_;rintro e w' ⟨rfl,rfl⟩
 go_wp2_with fail
 refine (I3.o _).mono ?_;rintro e w' ⟨rfl,rfl⟩
 go_wp2_with fail
 go_ret2;exact⟨by rw[RV.o];rfl,B0.o⟩
structure rF (w:World):Prop where
 sh:∃ t f,w.heap[5]?=some (.cells #[.int .i64 (-2000),.int .i64 (-1000),.int .i64 (-500),.int .i64 0,.int .i64 500,.int .i64 1000,.int .i64 2000] t f)
 vo:∃ t f,w.heap[6]?=some (.cells #[.int .i64 (-2500),.int .i64 0,.int .i64 2500] t f)
theorem rF.mod {S:Nat->Prop} {w w':World} (h:rF w) (hm:Mod S w w') (h1:¬ S 5) (h2:¬ S 6):rF w':=by
 obtain⟨⟨t,f,h3⟩,⟨t2,f2,h4⟩⟩:=h;exact⟨⟨t,f,hm.heap h3 h1⟩,⟨t2,f2,hm.heap h4 h2⟩⟩
theorem rF.below {w w':World} (h:rF w) (hb:Below w.heap.size w w'):rF w':=h.mod (Mod.of_below hb) (fun h=>h) (fun h=>h)
theorem rF.shift {w:World} (h:rF w) (s:Nat) (hs:s<21):w.cell? ⟨5,s / 3,none⟩=some (.int .i64 (jH s)):=by
 obtain⟨t,f,h1⟩:=h.sh;rw[cell_of_heap h1];have:s / 3<7:=by omega
 unfold jH;generalize s / 3=k at this ⊢
 match k,this with
 | 0,_|1,_|2,_|3,_|4,_|5,_|6,_=>rfl
theorem rF.cZ {w:World} (h:rF w) (s:Nat):w.cell? ⟨6,s % 3,none⟩=some (.int .i64 (su s)):=by
 obtain⟨t,f,h1⟩:=h.vo;rw[cell_of_heap h1];have:s % 3<3:=by omega
 unfold su;generalize s % 3=k at this ⊢
 match k,this with
 | 0,_|1,_|2,_=>rfl
theorem JU (price cZ:Int) (s:Nat) (hs:s<21) (p0:0<=price) (p1:price<=1000000000000) (v0:0<=cZ) (v1:cZ<=50000) (w:World) (hG:rF w) :
 Calls Tryz.prog 212 #[.int .i64 price,.int .i64 cZ,.int .i64 (s:Nat)] w fun e w'=>e=.returned (.tuple #[.int .i64 (oU price s),.int .i64 (oV cZ s),.int .i64 0])/\Below w.heap.size w w':=by
 obtain⟨e1,_,_⟩:=nZ p0 p1 s;obtain⟨e2,_,_⟩:=og v0 v1 s;have b1:=uQ s;have b2:=Au s;have F1:=zq (fun W=>lu price (10000+jH s) 10000 0 ⟨by omega,by omega⟩ ⟨by omega,by omega⟩ ⟨by omega,by omega⟩ W);have F2:=zq (fun W=>lu cZ (10000+su s) 10000 0 ⟨by omega,by omega⟩ ⟨by omega,by omega⟩ ⟨by omega,by omega⟩ W);rw[e1] at F1;rw[e2] at F2;have c1:=hG.shift s hs;have c2:=hG.cZ s;obtain⟨PP,hPP⟩:=Zn (oU price s);obtain⟨PV,hPV⟩:=Zn (oV cZ s);rw[<-hPP] at F1 ⊢;rw[<-hPV] at F2 ⊢;obtain⟨S,hS⟩:=Zn (jH s);obtain⟨T,hT⟩:=Zn (su s);rw[<-hS] at F1 c1 b1;rw[<-hT] at F2 c2 b2;obtain⟨q,hq⟩:=Zn (s / 3);obtain⟨r,hr⟩:=Zn (s % 3);rw[<-hq] at c1;rw[<-hr] at c2;have q1:(s:Int) / 3=(q:Int):=by omega
 have r1:(s:Int) % 3=(r:Int):=by omega
 have q2:(q:Int)<7:=by omega
 have r2:(r:Int)<3:=by omega
 have s1:(s:Int)<21:=by omega
 have s0:(0:Int)<=(s:Int):=by omega
 have q0:(0:Int)<=(q:Int):=by omega
 have r0:(0:Int)<=(r:Int):=by omega
 have t1:Int.tdiv (s:Int) 3=(q:Int):=by rw[Int.tdiv_eq_ediv_of_nonneg s0];exact q1
 have t2:Int.tmod (s:Int) 3=(r:Int):=by rw[Int.tmod_eq_emod_of_nonneg s0];exact r1
 clear hPP hPV hS hT hq hr e1 e2 hG hs
 go_enter Tryz.func212,Tryz.ntmps212
 go_wp2_with fail
 refine (F1.o _).mono ?_;rintro e w' ⟨rfl,n,rfl⟩;have B1:=zq (below_drewN (Below.refl w.heap.size w) n);have c2':=(Mod.of_below B1.o).cell c2 (fun h=>h);clear c1 c2;generalize w.drewN n=W1 at B1 c2' ⊢
 go_wp2_with fail
 refine (F2.o _).mono ?_;rintro e w' ⟨rfl,n,rfl⟩;have B2:=zq (below_drewN B1.o n)
 go_wp2_with fail
 go_ret3;exact⟨rfl,B2.o⟩
theorem tN {s:ByteArray} {b:Bool} (h:nameB s=b) (hs:s.size<=maxLen) (w:World):Calls Tryz.prog 50 #[.string s] w fun e w'=>e=.returned (.bool b)/\Below w.heap.size w w':=by
 rw[<-h];exact name_any s hs w
theorem kV {s:ByteArray} {b:Bool} (h:nameB s=b) (hs:s.size<=maxLen) (w:World):Calls Tryz.prog 52 #[.string s] w fun e w'=>e=.returned (.bool b)/\w=w':=by
 rw[<-h];exact J5 s hs w
open Classical in
theorem Il (x:gu) (n:Nat) (hn:n<=4) (w:World):Calls Tryz.prog 132 #[.agg #[.int .i64 x.rate,.int .i64 x.dL],.int .i64 (n:Nat)] w fun e w'=>e=.returned (.bool (decide (x.Ok n)))/\Below w.heap.size w w':=by
 obtain⟨r,hr⟩:=Zn (decide (x.Ok n));rw[<-hr];have n0:(0:Int)<=(n:Int):=by omega
 have n1:(n:Int)<=6:=by omega
 by_cases h0:(n:Int)=0
 ·skip;by_cases h1:x.rate=1000000
  ·skip;cases h2:inB x.rate 1 1000000000000
   case true =>
    cases h3:inB x.dL 0 10000
    case true =>
     have ih2:=bg.1 h2;have ih3:=bg.1 h3;have R:=zq (show r=true from by
      rw[hr];refine decide_eq_true ?_
      first|(simp[gu.Ok];done)|(simp only[gu.Ok,true_and,and_true];omega)|(simp[gu.Ok];omega))
     have eh0:((n:Int)==0)=true:=beq_iff_eq.2 h0;have gh0:((n:Int) != 0)=false:=show (!((n:Int)==0))=_ from by rw[eh0];rfl
     have eh1:(x.rate==1000000)=true:=beq_iff_eq.2 h1;have gh1:(x.rate != 1000000)=false:=show (!(x.rate==1000000))=_ from by rw[eh1];rfl
     have Kh2:=zq (fun W=>aS h2 W);clear ih2 h2;have Kh3:=zq (fun W=>aS h3 W);clear ih3 h3;clear h0;clear h1;clear hr
     go_enter Tryz.func132,Tryz.ntmps132
     go_wp2_with fail
     refine (Kh2.o _).mono ?_;rintro e w' ⟨rfl,rfl⟩
     go_wp2_with fail
     refine (Kh3.o _).mono ?_;rintro e w' ⟨rfl,rfl⟩
     go_wp2_with fail
     go_ret;exact⟨aj (by first|(rw[R.o];done)|(rw[R.o];rfl)|(rw[R.o];simp;done)|(rw[R.o];simp;omega)),Zb⟩
    case false =>
     have ih2:=bg.1 h2;have ih3:=gV.1 h3;have R:=zq (show r=false from by
      rw[hr];refine decide_eq_false ?_
      first|(simp[gu.Ok];done)|(simp only[gu.Ok,true_and,and_true];omega)|(simp[gu.Ok];omega))
     have eh0:((n:Int)==0)=true:=beq_iff_eq.2 h0;have gh0:((n:Int) != 0)=false:=show (!((n:Int)==0))=_ from by rw[eh0];rfl
     have eh1:(x.rate==1000000)=true:=beq_iff_eq.2 h1;have gh1:(x.rate != 1000000)=false:=show (!(x.rate==1000000))=_ from by rw[eh1];rfl
     have Kh2:=zq (fun W=>aS h2 W);clear ih2 h2;have Kh3:=zq (fun W=>aS h3 W);clear ih3 h3;clear h0;clear h1;clear hr
     go_enter Tryz.func132,Tryz.ntmps132
     go_wp2_with fail
     refine (Kh2.o _).mono ?_;rintro e w' ⟨rfl,rfl⟩
     go_wp2_with fail
     refine (Kh3.o _).mono ?_;rintro e w' ⟨rfl,rfl⟩
     go_wp2_with fail
     go_ret;exact⟨aj (by first|(rw[R.o];done)|(rw[R.o];rfl)|(rw[R.o];simp;done)|(rw[R.o];simp;omega)),Zb⟩
   case false =>
    have ih2:=gV.1 h2;have R:=zq (show r=false from by
     rw[hr];refine decide_eq_false ?_
     first|(simp[gu.Ok];done)|(simp only[gu.Ok,true_and,and_true];omega)|(simp[gu.Ok];omega))
    have eh0:((n:Int)==0)=true:=beq_iff_eq.2 h0;have gh0:((n:Int) != 0)=false:=show (!((n:Int)==0))=_ from by rw[eh0];rfl
    have eh1:(x.rate==1000000)=true:=beq_iff_eq.2 h1;have gh1:(x.rate != 1000000)=false:=show (!(x.rate==1000000))=_ from by rw[eh1];rfl
    have Kh2:=zq (fun W=>aS h2 W);clear ih2 h2;clear h0;clear h1;clear hr
    go_enter Tryz.func132,Tryz.ntmps132
    go_wp2_with fail
    refine (Kh2.o _).mono ?_;rintro e w' ⟨rfl,rfl⟩
    go_wp2_with fail
    go_ret;exact⟨aj (by first|(rw[R.o];done)|(rw[R.o];rfl)|(rw[R.o];simp;done)|(rw[R.o];simp;omega)),Zb⟩
  skip;have R:=zq (show r=false from by
   rw[hr];refine decide_eq_false ?_
   first|(simp[gu.Ok];done)|(simp only[gu.Ok,true_and,and_true];omega)|(simp[gu.Ok];omega))
  have eh0:((n:Int)==0)=true:=beq_iff_eq.2 h0;have gh0:((n:Int) != 0)=false:=show (!((n:Int)==0))=_ from by rw[eh0];rfl
  have eh1:(x.rate==1000000)=false:=beq_eq_false_iff_ne.2 h1;have gh1:(x.rate != 1000000)=true:=show (!(x.rate==1000000))=_ from by rw[eh1];rfl
  clear h0;clear h1;clear hr
  go_enter Tryz.func132,Tryz.ntmps132
  go_wp2_with fail
  go_ret;exact⟨aj (by first|(rw[R.o];done)|(rw[R.o];rfl)|(rw[R.o];simp;done)|(rw[R.o];simp;omega)),Zb⟩
 skip;cases h1:inB x.rate 1 1000000000000
 case true =>
  cases h2:inB x.dL 0 10000
  case true =>
   have ih1:=bg.1 h1;have ih2:=bg.1 h2;have R:=zq (show r=true from by
    rw[hr];refine decide_eq_true ?_
    first|(simp[gu.Ok];done)|(simp only[gu.Ok,true_and,and_true];omega)|(simp[gu.Ok];omega))
   have eh0:((n:Int)==0)=false:=beq_eq_false_iff_ne.2 h0;have gh0:((n:Int) != 0)=true:=show (!((n:Int)==0))=_ from by rw[eh0];rfl
   have Kh1:=zq (fun W=>aS h1 W);clear ih1 h1;have Kh2:=zq (fun W=>aS h2 W);clear ih2 h2;clear h0;clear hr
   go_enter Tryz.func132,Tryz.ntmps132
   go_wp2_with fail
   refine (Kh1.o _).mono ?_;rintro e w' ⟨rfl,rfl⟩
   go_wp2_with fail
   refine (Kh2.o _).mono ?_;rintro e w' ⟨rfl,rfl⟩
   go_wp2_with fail
   go_ret;exact⟨aj (by first|(rw[R.o];done)|(rw[R.o];rfl)|(rw[R.o];simp;done)|(rw[R.o];simp;omega)),Zb⟩
  case false =>
   have ih1:=bg.1 h1;have ih2:=gV.1 h2;have R:=zq (show r=false from by
    rw[hr];refine decide_eq_false ?_
    first|(simp[gu.Ok];done)|(simp only[gu.Ok,true_and,and_true];omega)|(simp[gu.Ok];omega))
   have eh0:((n:Int)==0)=false:=beq_eq_false_iff_ne.2 h0;have gh0:((n:Int) != 0)=true:=show (!((n:Int)==0))=_ from by rw[eh0];rfl
   have Kh1:=zq (fun W=>aS h1 W);clear ih1 h1;have Kh2:=zq (fun W=>aS h2 W);clear ih2 h2;clear h0;clear hr
   go_enter Tryz.func132,Tryz.ntmps132
   go_wp2_with fail
   refine (Kh1.o _).mono ?_;rintro e w' ⟨rfl,rfl⟩
   go_wp2_with fail
   refine (Kh2.o _).mono ?_;rintro e w' ⟨rfl,rfl⟩
   go_wp2_with fail
   go_ret;exact⟨aj (by first|(rw[R.o];done)|(rw[R.o];rfl)|(rw[R.o];simp;done)|(rw[R.o];simp;omega)),Zb⟩
 case false =>
  have ih1:=gV.1 h1;have R:=zq (show r=false from by
   rw[hr];refine decide_eq_false ?_
   first|(simp[gu.Ok];done)|(simp only[gu.Ok,true_and,and_true];omega)|(simp[gu.Ok];omega))
  have eh0:((n:Int)==0)=false:=beq_eq_false_iff_ne.2 h0;have gh0:((n:Int) != 0)=true:=show (!((n:Int)==0))=_ from by rw[eh0];rfl
  have Kh1:=zq (fun W=>aS h1 W);clear ih1 h1;clear h0;clear hr
  go_enter Tryz.func132,Tryz.ntmps132
  go_wp2_with fail
  refine (Kh1.o _).mono ?_;rintro e w' ⟨rfl,rfl⟩
  go_wp2_with fail
  go_ret;exact⟨aj (by first|(rw[R.o];done)|(rw[R.o];rfl)|(rw[R.o];simp;done)|(rw[R.o];simp;omega)),Zb⟩
open Classical in
theorem IU (x:dX) (n:Nat) (hn:n<=4) (hs:x.name.size<=maxLen) (w:World):Calls Tryz.prog 24 #[.agg #[.string x.name,.int .i64 x.cur,.int .i64 x.price,.int .i64 x.cZ],.int .i64 (n:Nat)] w fun e w'=>e=.returned (.bool (decide (x.Ok n)))/\Below w.heap.size w w':=by
 obtain⟨r,hr⟩:=Zn (decide (x.Ok n));rw[<-hr];have n0:(0:Int)<=(n:Int):=by omega
 have n1:(n:Int)<=6:=by omega
 have Q1:=zq (show (w.alloc (.cells #[.string x.name,.int .i64 x.cur,.int .i64 x.price,.int .i64 x.cZ] 48)).cell? ⟨w.heap.size,1,none⟩=some (.int .i64 x.cur) from by rw[cell_of_heap (heap_alloc_new w _)];rfl);have Q2:=zq (show (w.alloc (.cells #[.string x.name,.int .i64 x.cur,.int .i64 x.price,.int .i64 x.cZ] 48)).cell? ⟨w.heap.size,2,none⟩=some (.int .i64 x.price) from by rw[cell_of_heap (heap_alloc_new w _)];rfl);have Q3:=zq (show (w.alloc (.cells #[.string x.name,.int .i64 x.cur,.int .i64 x.price,.int .i64 x.cZ] 48)).cell? ⟨w.heap.size,3,none⟩=some (.int .i64 x.cZ) from by rw[cell_of_heap (heap_alloc_new w _)];rfl);cases h0:nameB x.name
 case true =>
  cases h1:inB x.cur 0 ((n:Int) - 1)
  case true =>
   cases h2:inB x.price 1 1000000000000
   case true =>
    cases h3:inB x.cZ 0 50000
    case true =>
     have ih1:=bg.1 h1;have ih2:=bg.1 h2;have ih3:=bg.1 h3;have R:=zq (show r=true from by
      rw[hr];refine decide_eq_true ?_
      first|(simp[dX.Ok,h0];done)|(simp only[dX.Ok,h0,true_and,and_true];omega)|(simp[dX.Ok,h0];omega))
     have Kh0:=zq (fun W=>tN h0 hs W);clear h0;have Kh1:=zq (fun W=>aS h1 W);clear ih1 h1;have Kh2:=zq (fun W=>aS h2 W);clear ih2 h2;have Kh3:=zq (fun W=>aS h3 W);clear ih3 h3;clear hr
     go_enter Tryz.func24,Tryz.ntmps24
     go_wp2_with fail
     refine (Kh0.o _).mono ?_;rintro e w' ⟨rfl,hb⟩;have q1:=(Mod.of_below hb).cell Q1.o (by simp);have q2:=(Mod.of_below hb).cell Q2.o (by simp);have q3:=(Mod.of_below hb).cell Q3.o (by simp);have BB:=zq ((Zb).trans (hb.mono (by simp)):Below w.heap.size w w');clear hb
     go_wp2_with fail
     refine (Kh1.o _).mono ?_;rintro e w' ⟨rfl,rfl⟩
     go_wp2_with fail
     refine (Kh2.o _).mono ?_;rintro e w' ⟨rfl,rfl⟩
     go_wp2_with fail
     refine (Kh3.o _).mono ?_;rintro e w' ⟨rfl,rfl⟩
     go_wp2_with fail
     go_ret;exact⟨aj (by first|(rw[R.o];done)|(rw[R.o];rfl)|(rw[R.o];simp;done)|(rw[R.o];simp;omega)),BB.o⟩
    case false =>
     have ih1:=bg.1 h1;have ih2:=bg.1 h2;have ih3:=gV.1 h3;have R:=zq (show r=false from by
      rw[hr];refine decide_eq_false ?_
      first|(simp[dX.Ok,h0];done)|(simp only[dX.Ok,h0,true_and,and_true];omega)|(simp[dX.Ok,h0];omega))
     have Kh0:=zq (fun W=>tN h0 hs W);clear h0;have Kh1:=zq (fun W=>aS h1 W);clear ih1 h1;have Kh2:=zq (fun W=>aS h2 W);clear ih2 h2;have Kh3:=zq (fun W=>aS h3 W);clear ih3 h3;clear hr
     go_enter Tryz.func24,Tryz.ntmps24
     go_wp2_with fail
     refine (Kh0.o _).mono ?_;rintro e w' ⟨rfl,hb⟩;have q1:=(Mod.of_below hb).cell Q1.o (by simp);have q2:=(Mod.of_below hb).cell Q2.o (by simp);have q3:=(Mod.of_below hb).cell Q3.o (by simp);have BB:=zq ((Zb).trans (hb.mono (by simp)):Below w.heap.size w w');clear hb
     go_wp2_with fail
     refine (Kh1.o _).mono ?_;rintro e w' ⟨rfl,rfl⟩
     go_wp2_with fail
     refine (Kh2.o _).mono ?_;rintro e w' ⟨rfl,rfl⟩
     go_wp2_with fail
     refine (Kh3.o _).mono ?_;rintro e w' ⟨rfl,rfl⟩
     go_wp2_with fail
     go_ret;exact⟨aj (by first|(rw[R.o];done)|(rw[R.o];rfl)|(rw[R.o];simp;done)|(rw[R.o];simp;omega)),BB.o⟩
   case false =>
    have ih1:=bg.1 h1;have ih2:=gV.1 h2;have R:=zq (show r=false from by
     rw[hr];refine decide_eq_false ?_
     first|(simp[dX.Ok,h0];done)|(simp only[dX.Ok,h0,true_and,and_true];omega)|(simp[dX.Ok,h0];omega))
    have Kh0:=zq (fun W=>tN h0 hs W);clear h0;have Kh1:=zq (fun W=>aS h1 W);clear ih1 h1;have Kh2:=zq (fun W=>aS h2 W);clear ih2 h2;clear hr
    go_enter Tryz.func24,Tryz.ntmps24
    go_wp2_with fail
    refine (Kh0.o _).mono ?_;rintro e w' ⟨rfl,hb⟩;have q1:=(Mod.of_below hb).cell Q1.o (by simp);have q2:=(Mod.of_below hb).cell Q2.o (by simp);have q3:=(Mod.of_below hb).cell Q3.o (by simp);have BB:=zq ((Zb).trans (hb.mono (by simp)):Below w.heap.size w w');clear hb
    go_wp2_with fail
    refine (Kh1.o _).mono ?_;rintro e w' ⟨rfl,rfl⟩
    go_wp2_with fail
    refine (Kh2.o _).mono ?_;rintro e w' ⟨rfl,rfl⟩
    go_wp2_with fail
    go_ret;exact⟨aj (by first|(rw[R.o];done)|(rw[R.o];rfl)|(rw[R.o];simp;done)|(rw[R.o];simp;omega)),BB.o⟩
  case false =>
   have ih1:=gV.1 h1;have R:=zq (show r=false from by
    rw[hr];refine decide_eq_false ?_
    first|(simp[dX.Ok,h0];done)|(simp only[dX.Ok,h0,true_and,and_true];omega)|(simp[dX.Ok,h0];omega))
   have Kh0:=zq (fun W=>tN h0 hs W);clear h0;have Kh1:=zq (fun W=>aS h1 W);clear ih1 h1;clear hr
   go_enter Tryz.func24,Tryz.ntmps24
   go_wp2_with fail
   refine (Kh0.o _).mono ?_;rintro e w' ⟨rfl,hb⟩;have q1:=(Mod.of_below hb).cell Q1.o (by simp);have q2:=(Mod.of_below hb).cell Q2.o (by simp);have q3:=(Mod.of_below hb).cell Q3.o (by simp);have BB:=zq ((Zb).trans (hb.mono (by simp)):Below w.heap.size w w');clear hb
   go_wp2_with fail
   refine (Kh1.o _).mono ?_;rintro e w' ⟨rfl,rfl⟩
   go_wp2_with fail
   go_ret;exact⟨aj (by first|(rw[R.o];done)|(rw[R.o];rfl)|(rw[R.o];simp;done)|(rw[R.o];simp;omega)),BB.o⟩
 case false =>
  have R:=zq (show r=false from by
   rw[hr];refine decide_eq_false ?_
   first|(simp[dX.Ok,h0];done)|(simp only[dX.Ok,h0,true_and,and_true];omega)|(simp[dX.Ok,h0];omega))
  have Kh0:=zq (fun W=>tN h0 hs W);clear h0;clear hr
  go_enter Tryz.func24,Tryz.ntmps24
  go_wp2_with fail
  refine (Kh0.o _).mono ?_;rintro e w' ⟨rfl,hb⟩;have q1:=(Mod.of_below hb).cell Q1.o (by simp);have q2:=(Mod.of_below hb).cell Q2.o (by simp);have q3:=(Mod.of_below hb).cell Q3.o (by simp);have BB:=zq ((Zb).trans (hb.mono (by simp)):Below w.heap.size w w');clear hb
  go_wp2_with fail
  go_ret;exact⟨aj (by first|(rw[R.o];done)|(rw[R.o];rfl)|(rw[R.o];simp;done)|(rw[R.o];simp;omega)),BB.o⟩
open Classical in
theorem ins_any (x:Ins) (n:Nat) (hn:n<=6) (w:World):Calls Tryz.prog 26 #[.agg #[.int .i64 x.kind,.int .i64 x.under,.int .i64 x.mult,.int .i64 x.strike,.int .i64 x.aN,.bool x.call,.int .i64 x.mark],.int .i64 (n:Nat)] w fun e w'=>e=.returned (.bool (decide (x.Ok n)))/\Below w.heap.size w w':=by
 obtain⟨r,hr⟩:=Zn (decide (x.Ok n));rw[<-hr];have n0:(0:Int)<=(n:Int):=by omega
 have n1:(n:Int)<=6:=by omega
 cases h0:inB x.under 0 ((n:Int) - 1)
 case true =>
  cases h1:inB x.mult 1 1000000
  case true =>
   cases h2:inB x.mark 0 100000000000000
   case true =>
    by_cases h3:x.kind=1
    ·skip;by_cases h4:x.strike=0
     ·skip;by_cases h5:x.aN=0
      ·skip;cases h6:x.call
       case true =>
        have ih0:=bg.1 h0;have ih1:=bg.1 h1;have ih2:=bg.1 h2;have R:=zq (show r=false from by
         rw[hr];refine decide_eq_false ?_
         first|(simp[Ins.Ok,h6];done)|(simp only[Ins.Ok,h6,true_and,and_true];omega)|(simp[Ins.Ok,h6];omega))
        have Kh0:=zq (fun W=>aS h0 W);clear ih0 h0;have Kh1:=zq (fun W=>aS h1 W);clear ih1 h1;have Kh2:=zq (fun W=>aS h2 W);clear ih2 h2;have eh3:(x.kind==1)=true:=beq_iff_eq.2 h3;have gh3:(x.kind != 1)=false:=show (!(x.kind==1))=_ from by rw[eh3];rfl
        have eh4:(x.strike==0)=true:=beq_iff_eq.2 h4;have gh4:(x.strike != 0)=false:=show (!(x.strike==0))=_ from by rw[eh4];rfl
        have eh5:(x.aN==0)=true:=beq_iff_eq.2 h5;have gh5:(x.aN != 0)=false:=show (!(x.aN==0))=_ from by rw[eh5];rfl
        clear h3;clear h4;clear h5;clear hr
        go_enter Tryz.func26,Tryz.ntmps26
        go_wp2_with fail
        refine (Kh0.o _).mono ?_;rintro e w' ⟨rfl,rfl⟩
        go_wp2_with fail
        refine (Kh1.o _).mono ?_;rintro e w' ⟨rfl,rfl⟩
        go_wp2_with fail
        refine (Kh2.o _).mono ?_;rintro e w' ⟨rfl,rfl⟩
        go_wp2_with fail
        go_ret;exact⟨aj (by first|(rw[R.o];done)|(rw[R.o];rfl)|(rw[R.o];simp;done)|(rw[R.o];simp;omega)),Zb⟩
       case false =>
        have ih0:=bg.1 h0;have ih1:=bg.1 h1;have ih2:=bg.1 h2;have R:=zq (show r=true from by
         rw[hr];refine decide_eq_true ?_
         first|(simp[Ins.Ok,h6];done)|(simp only[Ins.Ok,h6,true_and,and_true];omega)|(simp[Ins.Ok,h6];omega))
        have Kh0:=zq (fun W=>aS h0 W);clear ih0 h0;have Kh1:=zq (fun W=>aS h1 W);clear ih1 h1;have Kh2:=zq (fun W=>aS h2 W);clear ih2 h2;have eh3:(x.kind==1)=true:=beq_iff_eq.2 h3;have gh3:(x.kind != 1)=false:=show (!(x.kind==1))=_ from by rw[eh3];rfl
        have eh4:(x.strike==0)=true:=beq_iff_eq.2 h4;have gh4:(x.strike != 0)=false:=show (!(x.strike==0))=_ from by rw[eh4];rfl
        have eh5:(x.aN==0)=true:=beq_iff_eq.2 h5;have gh5:(x.aN != 0)=false:=show (!(x.aN==0))=_ from by rw[eh5];rfl
        clear h3;clear h4;clear h5;clear hr
        go_enter Tryz.func26,Tryz.ntmps26
        go_wp2_with fail
        refine (Kh0.o _).mono ?_;rintro e w' ⟨rfl,rfl⟩
        go_wp2_with fail
        refine (Kh1.o _).mono ?_;rintro e w' ⟨rfl,rfl⟩
        go_wp2_with fail
        refine (Kh2.o _).mono ?_;rintro e w' ⟨rfl,rfl⟩
        go_wp2_with fail
        go_ret;exact⟨aj (by first|(rw[R.o];done)|(rw[R.o];rfl)|(rw[R.o];simp;done)|(rw[R.o];simp;omega)),Zb⟩
      skip;have ih0:=bg.1 h0;have ih1:=bg.1 h1;have ih2:=bg.1 h2;have R:=zq (show r=false from by
       rw[hr];refine decide_eq_false ?_
       first|(simp[Ins.Ok];done)|(simp only[Ins.Ok,true_and,and_true];omega)|(simp[Ins.Ok];omega))
      have Kh0:=zq (fun W=>aS h0 W);clear ih0 h0;have Kh1:=zq (fun W=>aS h1 W);clear ih1 h1;have Kh2:=zq (fun W=>aS h2 W);clear ih2 h2;have eh3:(x.kind==1)=true:=beq_iff_eq.2 h3;have gh3:(x.kind != 1)=false:=show (!(x.kind==1))=_ from by rw[eh3];rfl
      have eh4:(x.strike==0)=true:=beq_iff_eq.2 h4;have gh4:(x.strike != 0)=false:=show (!(x.strike==0))=_ from by rw[eh4];rfl
      have eh5:(x.aN==0)=false:=beq_eq_false_iff_ne.2 h5;have gh5:(x.aN != 0)=true:=show (!(x.aN==0))=_ from by rw[eh5];rfl
      clear h3;clear h4;clear h5;clear hr
      go_enter Tryz.func26,Tryz.ntmps26
      go_wp2_with fail
      refine (Kh0.o _).mono ?_;rintro e w' ⟨rfl,rfl⟩
      go_wp2_with fail
      refine (Kh1.o _).mono ?_;rintro e w' ⟨rfl,rfl⟩
      go_wp2_with fail
      refine (Kh2.o _).mono ?_;rintro e w' ⟨rfl,rfl⟩
      go_wp2_with fail
      go_ret;exact⟨aj (by first|(rw[R.o];done)|(rw[R.o];rfl)|(rw[R.o];simp;done)|(rw[R.o];simp;omega)),Zb⟩
     skip;have ih0:=bg.1 h0;have ih1:=bg.1 h1;have ih2:=bg.1 h2;have R:=zq (show r=false from by
      rw[hr];refine decide_eq_false ?_
      first|(simp[Ins.Ok];done)|(simp only[Ins.Ok,true_and,and_true];omega)|(simp[Ins.Ok];omega))
     have Kh0:=zq (fun W=>aS h0 W);clear ih0 h0;have Kh1:=zq (fun W=>aS h1 W);clear ih1 h1;have Kh2:=zq (fun W=>aS h2 W);clear ih2 h2;have eh3:(x.kind==1)=true:=beq_iff_eq.2 h3;have gh3:(x.kind != 1)=false:=show (!(x.kind==1))=_ from by rw[eh3];rfl
     have eh4:(x.strike==0)=false:=beq_eq_false_iff_ne.2 h4;have gh4:(x.strike != 0)=true:=show (!(x.strike==0))=_ from by rw[eh4];rfl
     clear h3;clear h4;clear hr
     go_enter Tryz.func26,Tryz.ntmps26
     go_wp2_with fail
     refine (Kh0.o _).mono ?_;rintro e w' ⟨rfl,rfl⟩
     go_wp2_with fail
     refine (Kh1.o _).mono ?_;rintro e w' ⟨rfl,rfl⟩
     go_wp2_with fail
     refine (Kh2.o _).mono ?_;rintro e w' ⟨rfl,rfl⟩
     go_wp2_with fail
     go_ret;exact⟨aj (by first|(rw[R.o];done)|(rw[R.o];rfl)|(rw[R.o];simp;done)|(rw[R.o];simp;omega)),Zb⟩
    skip;by_cases h4:x.kind=2
    ·skip;by_cases h5:x.strike=0
     ·skip;cases h6:inB x.aN 1 100000
      case true =>
       cases h7:x.call
       case true =>
        have ih0:=bg.1 h0;have ih1:=bg.1 h1;have ih2:=bg.1 h2;have ih6:=bg.1 h6;have R:=zq (show r=false from by
         rw[hr];refine decide_eq_false ?_
         first|(simp[Ins.Ok,h7];done)|(simp only[Ins.Ok,h7,true_and,and_true];omega)|(simp[Ins.Ok,h7];omega))
        have Kh0:=zq (fun W=>aS h0 W);clear ih0 h0;have Kh1:=zq (fun W=>aS h1 W);clear ih1 h1;have Kh2:=zq (fun W=>aS h2 W);clear ih2 h2;have eh3:(x.kind==1)=false:=beq_eq_false_iff_ne.2 h3;have gh3:(x.kind != 1)=true:=show (!(x.kind==1))=_ from by rw[eh3];rfl
        have eh4:(x.kind==2)=true:=beq_iff_eq.2 h4;have gh4:(x.kind != 2)=false:=show (!(x.kind==2))=_ from by rw[eh4];rfl
        have eh5:(x.strike==0)=true:=beq_iff_eq.2 h5;have gh5:(x.strike != 0)=false:=show (!(x.strike==0))=_ from by rw[eh5];rfl
        have Kh6:=zq (fun W=>aS h6 W);clear ih6 h6;clear h3;clear h4;clear h5;clear hr
        go_enter Tryz.func26,Tryz.ntmps26
        go_wp2_with fail
        refine (Kh0.o _).mono ?_;rintro e w' ⟨rfl,rfl⟩
        go_wp2_with fail
        refine (Kh1.o _).mono ?_;rintro e w' ⟨rfl,rfl⟩
        go_wp2_with fail
        refine (Kh2.o _).mono ?_;rintro e w' ⟨rfl,rfl⟩
        go_wp2_with fail
        refine (Kh6.o _).mono ?_;rintro e w' ⟨rfl,rfl⟩
        go_wp2_with fail
        go_ret;exact⟨aj (by first|(rw[R.o];done)|(rw[R.o];rfl)|(rw[R.o];simp;done)|(rw[R.o];simp;omega)),Zb⟩
       case false =>
        have ih0:=bg.1 h0;have ih1:=bg.1 h1;have ih2:=bg.1 h2;have ih6:=bg.1 h6;have R:=zq (show r=true from by
         rw[hr];refine decide_eq_true ?_
         first|(simp[Ins.Ok,h7];done)|(simp only[Ins.Ok,h7,true_and,and_true];omega)|(simp[Ins.Ok,h7];omega))
        have Kh0:=zq (fun W=>aS h0 W);clear ih0 h0;have Kh1:=zq (fun W=>aS h1 W);clear ih1 h1;have Kh2:=zq (fun W=>aS h2 W);clear ih2 h2;have eh3:(x.kind==1)=false:=beq_eq_false_iff_ne.2 h3;have gh3:(x.kind != 1)=true:=show (!(x.kind==1))=_ from by rw[eh3];rfl
        have eh4:(x.kind==2)=true:=beq_iff_eq.2 h4;have gh4:(x.kind != 2)=false:=show (!(x.kind==2))=_ from by rw[eh4];rfl
        have eh5:(x.strike==0)=true:=beq_iff_eq.2 h5;have gh5:(x.strike != 0)=false:=show (!(x.strike==0))=_ from by rw[eh5];rfl
        have Kh6:=zq (fun W=>aS h6 W);clear ih6 h6;clear h3;clear h4;clear h5;clear hr
        go_enter Tryz.func26,Tryz.ntmps26
        go_wp2_with fail
        refine (Kh0.o _).mono ?_;rintro e w' ⟨rfl,rfl⟩
        go_wp2_with fail
        refine (Kh1.o _).mono ?_;rintro e w' ⟨rfl,rfl⟩
        go_wp2_with fail
        refine (Kh2.o _).mono ?_;rintro e w' ⟨rfl,rfl⟩
        go_wp2_with fail
        refine (Kh6.o _).mono ?_;rintro e w' ⟨rfl,rfl⟩
        go_wp2_with fail
        go_ret;exact⟨aj (by first|(rw[R.o];done)|(rw[R.o];rfl)|(rw[R.o];simp;done)|(rw[R.o];simp;omega)),Zb⟩
      case false =>
       have ih0:=bg.1 h0;have ih1:=bg.1 h1;have ih2:=bg.1 h2;have ih6:=gV.1 h6;have R:=zq (show r=false from by
        rw[hr];refine decide_eq_false ?_
        first|(simp[Ins.Ok];done)|(simp only[Ins.Ok,true_and,and_true];omega)|(simp[Ins.Ok];omega))
       have Kh0:=zq (fun W=>aS h0 W);clear ih0 h0;have Kh1:=zq (fun W=>aS h1 W);clear ih1 h1;have Kh2:=zq (fun W=>aS h2 W);clear ih2 h2;have eh3:(x.kind==1)=false:=beq_eq_false_iff_ne.2 h3;have gh3:(x.kind != 1)=true:=show (!(x.kind==1))=_ from by rw[eh3];rfl
       have eh4:(x.kind==2)=true:=beq_iff_eq.2 h4;have gh4:(x.kind != 2)=false:=show (!(x.kind==2))=_ from by rw[eh4];rfl
       have eh5:(x.strike==0)=true:=beq_iff_eq.2 h5;have gh5:(x.strike != 0)=false:=show (!(x.strike==0))=_ from by rw[eh5];rfl
       have Kh6:=zq (fun W=>aS h6 W);clear ih6 h6;clear h3;clear h4;clear h5;clear hr
       go_enter Tryz.func26,Tryz.ntmps26
       go_wp2_with fail
       refine (Kh0.o _).mono ?_;rintro e w' ⟨rfl,rfl⟩
       go_wp2_with fail
       refine (Kh1.o _).mono ?_;rintro e w' ⟨rfl,rfl⟩
       go_wp2_with fail
       refine (Kh2.o _).mono ?_;rintro e w' ⟨rfl,rfl⟩
       go_wp2_with fail
       refine (Kh6.o _).mono ?_;rintro e w' ⟨rfl,rfl⟩
       go_wp2_with fail
       go_ret;exact⟨aj (by first|(rw[R.o];done)|(rw[R.o];rfl)|(rw[R.o];simp;done)|(rw[R.o];simp;omega)),Zb⟩
     skip;have ih0:=bg.1 h0;have ih1:=bg.1 h1;have ih2:=bg.1 h2;have R:=zq (show r=false from by
      rw[hr];refine decide_eq_false ?_
      first|(simp[Ins.Ok];done)|(simp only[Ins.Ok,true_and,and_true];omega)|(simp[Ins.Ok];omega))
     have Kh0:=zq (fun W=>aS h0 W);clear ih0 h0;have Kh1:=zq (fun W=>aS h1 W);clear ih1 h1;have Kh2:=zq (fun W=>aS h2 W);clear ih2 h2;have eh3:(x.kind==1)=false:=beq_eq_false_iff_ne.2 h3;have gh3:(x.kind != 1)=true:=show (!(x.kind==1))=_ from by rw[eh3];rfl
     have eh4:(x.kind==2)=true:=beq_iff_eq.2 h4;have gh4:(x.kind != 2)=false:=show (!(x.kind==2))=_ from by rw[eh4];rfl
     have eh5:(x.strike==0)=false:=beq_eq_false_iff_ne.2 h5;have gh5:(x.strike != 0)=true:=show (!(x.strike==0))=_ from by rw[eh5];rfl
     clear h3;clear h4;clear h5;clear hr
     go_enter Tryz.func26,Tryz.ntmps26
     go_wp2_with fail
     refine (Kh0.o _).mono ?_;rintro e w' ⟨rfl,rfl⟩
     go_wp2_with fail
     refine (Kh1.o _).mono ?_;rintro e w' ⟨rfl,rfl⟩
     go_wp2_with fail
     refine (Kh2.o _).mono ?_;rintro e w' ⟨rfl,rfl⟩
     go_wp2_with fail
     go_ret;exact⟨aj (by first|(rw[R.o];done)|(rw[R.o];rfl)|(rw[R.o];simp;done)|(rw[R.o];simp;omega)),Zb⟩
    skip;by_cases h5:x.kind=3
    ·skip;cases h6:inB x.strike 1 1000000000000
     case true =>
      cases h7:inB x.aN 1 100000
      case true =>
       have ih0:=bg.1 h0;have ih1:=bg.1 h1;have ih2:=bg.1 h2;have ih6:=bg.1 h6;have ih7:=bg.1 h7;have R:=zq (show r=true from by
        rw[hr];refine decide_eq_true ?_
        first|(simp[Ins.Ok];done)|(simp only[Ins.Ok,true_and,and_true];omega)|(simp[Ins.Ok];omega))
       have Kh0:=zq (fun W=>aS h0 W);clear ih0 h0;have Kh1:=zq (fun W=>aS h1 W);clear ih1 h1;have Kh2:=zq (fun W=>aS h2 W);clear ih2 h2;have eh3:(x.kind==1)=false:=beq_eq_false_iff_ne.2 h3;have gh3:(x.kind != 1)=true:=show (!(x.kind==1))=_ from by rw[eh3];rfl
       have eh4:(x.kind==2)=false:=beq_eq_false_iff_ne.2 h4;have gh4:(x.kind != 2)=true:=show (!(x.kind==2))=_ from by rw[eh4];rfl
       have eh5:(x.kind==3)=true:=beq_iff_eq.2 h5;have gh5:(x.kind != 3)=false:=show (!(x.kind==3))=_ from by rw[eh5];rfl
       have Kh6:=zq (fun W=>aS h6 W);clear ih6 h6;have Kh7:=zq (fun W=>aS h7 W);clear ih7 h7;clear h3;clear h4;clear h5;clear hr
       go_enter Tryz.func26,Tryz.ntmps26
       go_wp2_with fail
       refine (Kh0.o _).mono ?_;rintro e w' ⟨rfl,rfl⟩
       go_wp2_with fail
       refine (Kh1.o _).mono ?_;rintro e w' ⟨rfl,rfl⟩
       go_wp2_with fail
       refine (Kh2.o _).mono ?_;rintro e w' ⟨rfl,rfl⟩
       go_wp2_with fail
       refine (Kh6.o _).mono ?_;rintro e w' ⟨rfl,rfl⟩
       go_wp2_with fail
       refine (Kh7.o _).mono ?_;rintro e w' ⟨rfl,rfl⟩
       go_wp2_with fail
       go_ret;exact⟨aj (by first|(rw[R.o];done)|(rw[R.o];rfl)|(rw[R.o];simp;done)|(rw[R.o];simp;omega)),Zb⟩
      case false =>
       have ih0:=bg.1 h0;have ih1:=bg.1 h1;have ih2:=bg.1 h2;have ih6:=bg.1 h6;have ih7:=gV.1 h7;have R:=zq (show r=false from by
        rw[hr];refine decide_eq_false ?_
        first|(simp[Ins.Ok];done)|(simp only[Ins.Ok,true_and,and_true];omega)|(simp[Ins.Ok];omega))
       have Kh0:=zq (fun W=>aS h0 W);clear ih0 h0;have Kh1:=zq (fun W=>aS h1 W);clear ih1 h1;have Kh2:=zq (fun W=>aS h2 W);clear ih2 h2;have eh3:(x.kind==1)=false:=beq_eq_false_iff_ne.2 h3;have gh3:(x.kind != 1)=true:=show (!(x.kind==1))=_ from by rw[eh3];rfl
       have eh4:(x.kind==2)=false:=beq_eq_false_iff_ne.2 h4;have gh4:(x.kind != 2)=true:=show (!(x.kind==2))=_ from by rw[eh4];rfl
       have eh5:(x.kind==3)=true:=beq_iff_eq.2 h5;have gh5:(x.kind != 3)=false:=show (!(x.kind==3))=_ from by rw[eh5];rfl
       have Kh6:=zq (fun W=>aS h6 W);clear ih6 h6;have Kh7:=zq (fun W=>aS h7 W);clear ih7 h7;clear h3;clear h4;clear h5;clear hr
       go_enter Tryz.func26,Tryz.ntmps26
       go_wp2_with fail
       refine (Kh0.o _).mono ?_;rintro e w' ⟨rfl,rfl⟩
       go_wp2_with fail
       refine (Kh1.o _).mono ?_;rintro e w' ⟨rfl,rfl⟩
       go_wp2_with fail
       refine (Kh2.o _).mono ?_;rintro e w' ⟨rfl,rfl⟩
       go_wp2_with fail
       refine (Kh6.o _).mono ?_;rintro e w' ⟨rfl,rfl⟩
       go_wp2_with fail
       refine (Kh7.o _).mono ?_;rintro e w' ⟨rfl,rfl⟩
       go_wp2_with fail
       go_ret;exact⟨aj (by first|(rw[R.o];done)|(rw[R.o];rfl)|(rw[R.o];simp;done)|(rw[R.o];simp;omega)),Zb⟩
     case false =>
      have ih0:=bg.1 h0;have ih1:=bg.1 h1;have ih2:=bg.1 h2;have ih6:=gV.1 h6;have R:=zq (show r=false from by
       rw[hr];refine decide_eq_false ?_
       first|(simp[Ins.Ok];done)|(simp only[Ins.Ok,true_and,and_true];omega)|(simp[Ins.Ok];omega))
      have Kh0:=zq (fun W=>aS h0 W);clear ih0 h0;have Kh1:=zq (fun W=>aS h1 W);clear ih1 h1;have Kh2:=zq (fun W=>aS h2 W);clear ih2 h2;have eh3:(x.kind==1)=false:=beq_eq_false_iff_ne.2 h3;have gh3:(x.kind != 1)=true:=show (!(x.kind==1))=_ from by rw[eh3];rfl
      have eh4:(x.kind==2)=false:=beq_eq_false_iff_ne.2 h4;have gh4:(x.kind != 2)=true:=show (!(x.kind==2))=_ from by rw[eh4];rfl
      have eh5:(x.kind==3)=true:=beq_iff_eq.2 h5;have gh5:(x.kind != 3)=false:=show (!(x.kind==3))=_ from by rw[eh5];rfl
      have Kh6:=zq (fun W=>aS h6 W);clear ih6 h6;clear h3;clear h4;clear h5;clear hr
      go_enter Tryz.func26,Tryz.ntmps26
      go_wp2_with fail
      refine (Kh0.o _).mono ?_;rintro e w' ⟨rfl,rfl⟩
      go_wp2_with fail
      refine (Kh1.o _).mono ?_;rintro e w' ⟨rfl,rfl⟩
      go_wp2_with fail
      refine (Kh2.o _).mono ?_;rintro e w' ⟨rfl,rfl⟩
      go_wp2_with fail
      refine (Kh6.o _).mono ?_;rintro e w' ⟨rfl,rfl⟩
      go_wp2_with fail
      go_ret;exact⟨aj (by first|(rw[R.o];done)|(rw[R.o];rfl)|(rw[R.o];simp;done)|(rw[R.o];simp;omega)),Zb⟩
    skip;have ih0:=bg.1 h0;have ih1:=bg.1 h1;have ih2:=bg.1 h2;have R:=zq (show r=false from by
     rw[hr];refine decide_eq_false ?_
     first|(simp[Ins.Ok];done)|(simp only[Ins.Ok,true_and,and_true];omega)|(simp[Ins.Ok];omega))
    have Kh0:=zq (fun W=>aS h0 W);clear ih0 h0;have Kh1:=zq (fun W=>aS h1 W);clear ih1 h1;have Kh2:=zq (fun W=>aS h2 W);clear ih2 h2;have eh3:(x.kind==1)=false:=beq_eq_false_iff_ne.2 h3;have gh3:(x.kind != 1)=true:=show (!(x.kind==1))=_ from by rw[eh3];rfl
    have eh4:(x.kind==2)=false:=beq_eq_false_iff_ne.2 h4;have gh4:(x.kind != 2)=true:=show (!(x.kind==2))=_ from by rw[eh4];rfl
    have eh5:(x.kind==3)=false:=beq_eq_false_iff_ne.2 h5;have gh5:(x.kind != 3)=true:=show (!(x.kind==3))=_ from by rw[eh5];rfl
    clear h3;clear h4;clear h5;clear hr
    go_enter Tryz.func26,Tryz.ntmps26
    go_wp2_with fail
    refine (Kh0.o _).mono ?_;rintro e w' ⟨rfl,rfl⟩
    go_wp2_with fail
    refine (Kh1.o _).mono ?_;rintro e w' ⟨rfl,rfl⟩
    go_wp2_with fail
    refine (Kh2.o _).mono ?_;rintro e w' ⟨rfl,rfl⟩
    go_wp2_with fail
    go_ret;exact⟨aj (by first|(rw[R.o];done)|(rw[R.o];rfl)|(rw[R.o];simp;done)|(rw[R.o];simp;omega)),Zb⟩
   case false =>
    have ih0:=bg.1 h0;have ih1:=bg.1 h1;have ih2:=gV.1 h2;have R:=zq (show r=false from by
     rw[hr];refine decide_eq_false ?_
     first|(simp[Ins.Ok];done)|(simp only[Ins.Ok,true_and,and_true];omega)|(simp[Ins.Ok];omega))
    have Kh0:=zq (fun W=>aS h0 W);clear ih0 h0;have Kh1:=zq (fun W=>aS h1 W);clear ih1 h1;have Kh2:=zq (fun W=>aS h2 W);clear ih2 h2;clear hr
    go_enter Tryz.func26,Tryz.ntmps26
    go_wp2_with fail
    refine (Kh0.o _).mono ?_;rintro e w' ⟨rfl,rfl⟩
    go_wp2_with fail
    refine (Kh1.o _).mono ?_;rintro e w' ⟨rfl,rfl⟩
    go_wp2_with fail
    refine (Kh2.o _).mono ?_;rintro e w' ⟨rfl,rfl⟩
    go_wp2_with fail
    go_ret;exact⟨aj (by first|(rw[R.o];done)|(rw[R.o];rfl)|(rw[R.o];simp;done)|(rw[R.o];simp;omega)),Zb⟩
  case false =>
   have ih0:=bg.1 h0;have ih1:=gV.1 h1;have R:=zq (show r=false from by
    rw[hr];refine decide_eq_false ?_
    first|(simp[Ins.Ok];done)|(simp only[Ins.Ok,true_and,and_true];omega)|(simp[Ins.Ok];omega))
   have Kh0:=zq (fun W=>aS h0 W);clear ih0 h0;have Kh1:=zq (fun W=>aS h1 W);clear ih1 h1;clear hr
   go_enter Tryz.func26,Tryz.ntmps26
   go_wp2_with fail
   refine (Kh0.o _).mono ?_;rintro e w' ⟨rfl,rfl⟩
   go_wp2_with fail
   refine (Kh1.o _).mono ?_;rintro e w' ⟨rfl,rfl⟩
   go_wp2_with fail
   go_ret;exact⟨aj (by first|(rw[R.o];done)|(rw[R.o];rfl)|(rw[R.o];simp;done)|(rw[R.o];simp;omega)),Zb⟩
 case false =>
  have ih0:=gV.1 h0;have R:=zq (show r=false from by
   rw[hr];refine decide_eq_false ?_
   first|(simp[Ins.Ok];done)|(simp only[Ins.Ok,true_and,and_true];omega)|(simp[Ins.Ok];omega))
  have Kh0:=zq (fun W=>aS h0 W);clear ih0 h0;clear hr
  go_enter Tryz.func26,Tryz.ntmps26
  go_wp2_with fail
  refine (Kh0.o _).mono ?_;rintro e w' ⟨rfl,rfl⟩
  go_wp2_with fail
  go_ret;exact⟨aj (by first|(rw[R.o];done)|(rw[R.o];rfl)|(rw[R.o];simp;done)|(rw[R.o];simp;omega)),Zb⟩
open Classical in
theorem Dq (x:gu) (n:Nat) (hn:n<=4) (w:World):Calls Tryz.prog 72 #[.agg #[.int .i64 x.rate,.int .i64 x.dL],.int .i64 (n:Nat)] w fun e w'=>e=.returned (.bool (decide (x.Ok n)))/\Below w.heap.size w w':=by
 obtain⟨r,hr⟩:=Zn (decide (x.Ok n));rw[<-hr];have n0:(0:Int)<=(n:Int):=by omega
 have n1:(n:Int)<=6:=by omega
 by_cases h0:x.rate<1
 ·skip;have R:=zq (show r=false from by
   rw[hr];refine decide_eq_false ?_
   first|(simp[gu.Ok];done)|(simp only[gu.Ok,true_and,and_true];omega)|(simp[gu.Ok];omega))
  clear hr
  go_enter Tryz.func72,Tryz.ntmps72
  go_wp2_with fail
  go_ret;exact⟨aj (by first|(rw[R.o];done)|(rw[R.o];rfl)|(rw[R.o];simp;done)|(rw[R.o];simp;omega)),Zb⟩
 skip;by_cases h1:1000000000000<x.rate
 ·skip;have R:=zq (show r=false from by
   rw[hr];refine decide_eq_false ?_
   first|(simp[gu.Ok];done)|(simp only[gu.Ok,true_and,and_true];omega)|(simp[gu.Ok];omega))
  clear hr
  go_enter Tryz.func72,Tryz.ntmps72
  go_wp2_with fail
  go_ret;exact⟨aj (by first|(rw[R.o];done)|(rw[R.o];rfl)|(rw[R.o];simp;done)|(rw[R.o];simp;omega)),Zb⟩
 skip;by_cases h2:x.dL<0
 ·skip;have R:=zq (show r=false from by
   rw[hr];refine decide_eq_false ?_
   first|(simp[gu.Ok];done)|(simp only[gu.Ok,true_and,and_true];omega)|(simp[gu.Ok];omega))
  clear hr
  go_enter Tryz.func72,Tryz.ntmps72
  go_wp2_with fail
  go_ret;exact⟨aj (by first|(rw[R.o];done)|(rw[R.o];rfl)|(rw[R.o];simp;done)|(rw[R.o];simp;omega)),Zb⟩
 skip;by_cases h3:10000<x.dL
 ·skip;have R:=zq (show r=false from by
   rw[hr];refine decide_eq_false ?_
   first|(simp[gu.Ok];done)|(simp only[gu.Ok,true_and,and_true];omega)|(simp[gu.Ok];omega))
  clear hr
  go_enter Tryz.func72,Tryz.ntmps72
  go_wp2_with fail
  go_ret;exact⟨aj (by first|(rw[R.o];done)|(rw[R.o];rfl)|(rw[R.o];simp;done)|(rw[R.o];simp;omega)),Zb⟩
 skip;by_cases h4:(n:Int)=0
 ·skip;by_cases h5:x.rate=1000000
  ·skip;have R:=zq (show r=true from by
    rw[hr];refine decide_eq_true ?_
    first|(simp[gu.Ok];done)|(simp only[gu.Ok,true_and,and_true];omega)|(simp[gu.Ok];omega))
   have eh4:((n:Int)==0)=true:=beq_iff_eq.2 h4;have gh4:((n:Int) != 0)=false:=show (!((n:Int)==0))=_ from by rw[eh4];rfl
   have eh5:(x.rate==1000000)=true:=beq_iff_eq.2 h5;have gh5:(x.rate != 1000000)=false:=show (!(x.rate==1000000))=_ from by rw[eh5];rfl
   clear h4;clear h5;clear hr
   go_enter Tryz.func72,Tryz.ntmps72
   go_wp2_with fail
   go_ret;exact⟨aj (by first|(rw[R.o];done)|(rw[R.o];rfl)|(rw[R.o];simp;done)|(rw[R.o];simp;omega)),Zb⟩
  skip;have R:=zq (show r=false from by
   rw[hr];refine decide_eq_false ?_
   first|(simp[gu.Ok];done)|(simp only[gu.Ok,true_and,and_true];omega)|(simp[gu.Ok];omega))
  have eh4:((n:Int)==0)=true:=beq_iff_eq.2 h4;have gh4:((n:Int) != 0)=false:=show (!((n:Int)==0))=_ from by rw[eh4];rfl
  have eh5:(x.rate==1000000)=false:=beq_eq_false_iff_ne.2 h5;have gh5:(x.rate != 1000000)=true:=show (!(x.rate==1000000))=_ from by rw[eh5];rfl
  clear h4;clear h5;clear hr
  go_enter Tryz.func72,Tryz.ntmps72
  go_wp2_with fail
  go_ret;exact⟨aj (by first|(rw[R.o];done)|(rw[R.o];rfl)|(rw[R.o];simp;done)|(rw[R.o];simp;omega)),Zb⟩
 skip;have R:=zq (show r=true from by
  rw[hr];refine decide_eq_true ?_
  first|(simp[gu.Ok];done)|(simp only[gu.Ok,true_and,and_true];omega)|(simp[gu.Ok];omega))
 have eh4:((n:Int)==0)=false:=beq_eq_false_iff_ne.2 h4;have gh4:((n:Int) != 0)=true:=show (!((n:Int)==0))=_ from by rw[eh4];rfl
 clear h4;clear hr
 go_enter Tryz.func72,Tryz.ntmps72
 go_wp2_with fail
 go_ret;exact⟨aj (by first|(rw[R.o];done)|(rw[R.o];rfl)|(rw[R.o];simp;done)|(rw[R.o];simp;omega)),Zb⟩
open Classical in
theorem DL (x:dX) (n:Nat) (hn:n<=4) (hs:x.name.size<=maxLen) (w:World):Calls Tryz.prog 73 #[.agg #[.string x.name,.int .i64 x.cur,.int .i64 x.price,.int .i64 x.cZ],.int .i64 (n:Nat)] w fun e w'=>e=.returned (.bool (decide (x.Ok n)))/\Below w.heap.size w w':=by
 obtain⟨r,hr⟩:=Zn (decide (x.Ok n));rw[<-hr];have n0:(0:Int)<=(n:Int):=by omega
 have n1:(n:Int)<=6:=by omega
 cases h0:nameB x.name
 case true =>
  by_cases h1:0<=x.cur
  ·skip;by_cases h2:x.cur<(n:Int)
   ·skip;by_cases h3:0<x.price
    ·skip;by_cases h4:x.price<=1000000000000
     ·skip;by_cases h5:0<=x.cZ
      ·skip;by_cases h6:x.cZ<=50000
       ·skip;have R:=zq (show r=true from by
         rw[hr];refine decide_eq_true ?_
         first|(simp[dX.Ok,h0];done)|(simp only[dX.Ok,h0,true_and,and_true];omega)|(simp[dX.Ok,h0];omega))
        have Kh0:=zq (fun W=>kV h0 hs W);clear h0;clear hr
        go_enter Tryz.func73,Tryz.ntmps73
        go_wp2_with fail
        refine (Kh0.o _).mono ?_;rintro e w' ⟨rfl,rfl⟩
        go_wp2_with fail
        go_ret;exact⟨aj (by first|(rw[R.o];done)|(rw[R.o];rfl)|(rw[R.o];simp;done)|(rw[R.o];simp;omega)),Zb⟩
       skip;have R:=zq (show r=false from by
        rw[hr];refine decide_eq_false ?_
        first|(simp[dX.Ok,h0];done)|(simp only[dX.Ok,h0,true_and,and_true];omega)|(simp[dX.Ok,h0];omega))
       have Kh0:=zq (fun W=>kV h0 hs W);clear h0;clear hr
       go_enter Tryz.func73,Tryz.ntmps73
       go_wp2_with fail
       refine (Kh0.o _).mono ?_;rintro e w' ⟨rfl,rfl⟩
       go_wp2_with fail
       go_ret;exact⟨aj (by first|(rw[R.o];done)|(rw[R.o];rfl)|(rw[R.o];simp;done)|(rw[R.o];simp;omega)),Zb⟩
      skip;have R:=zq (show r=false from by
       rw[hr];refine decide_eq_false ?_
       first|(simp[dX.Ok,h0];done)|(simp only[dX.Ok,h0,true_and,and_true];omega)|(simp[dX.Ok,h0];omega))
      have Kh0:=zq (fun W=>kV h0 hs W);clear h0;clear hr
      go_enter Tryz.func73,Tryz.ntmps73
      go_wp2_with fail
      refine (Kh0.o _).mono ?_;rintro e w' ⟨rfl,rfl⟩
      go_wp2_with fail
      go_ret;exact⟨aj (by first|(rw[R.o];done)|(rw[R.o];rfl)|(rw[R.o];simp;done)|(rw[R.o];simp;omega)),Zb⟩
     skip;have R:=zq (show r=false from by
      rw[hr];refine decide_eq_false ?_
      first|(simp[dX.Ok,h0];done)|(simp only[dX.Ok,h0,true_and,and_true];omega)|(simp[dX.Ok,h0];omega))
     have Kh0:=zq (fun W=>kV h0 hs W);clear h0;clear hr
     go_enter Tryz.func73,Tryz.ntmps73
     go_wp2_with fail
     refine (Kh0.o _).mono ?_;rintro e w' ⟨rfl,rfl⟩
     go_wp2_with fail
     go_ret;exact⟨aj (by first|(rw[R.o];done)|(rw[R.o];rfl)|(rw[R.o];simp;done)|(rw[R.o];simp;omega)),Zb⟩
    skip;have R:=zq (show r=false from by
     rw[hr];refine decide_eq_false ?_
     first|(simp[dX.Ok,h0];done)|(simp only[dX.Ok,h0,true_and,and_true];omega)|(simp[dX.Ok,h0];omega))
    have Kh0:=zq (fun W=>kV h0 hs W);clear h0;clear hr
    go_enter Tryz.func73,Tryz.ntmps73
    go_wp2_with fail
    refine (Kh0.o _).mono ?_;rintro e w' ⟨rfl,rfl⟩
    go_wp2_with fail
    go_ret;exact⟨aj (by first|(rw[R.o];done)|(rw[R.o];rfl)|(rw[R.o];simp;done)|(rw[R.o];simp;omega)),Zb⟩
   skip;have R:=zq (show r=false from by
    rw[hr];refine decide_eq_false ?_
    first|(simp[dX.Ok,h0];done)|(simp only[dX.Ok,h0,true_and,and_true];omega)|(simp[dX.Ok,h0];omega))
   have Kh0:=zq (fun W=>kV h0 hs W);clear h0;clear hr
   go_enter Tryz.func73,Tryz.ntmps73
   go_wp2_with fail
   refine (Kh0.o _).mono ?_;rintro e w' ⟨rfl,rfl⟩
   go_wp2_with fail
   go_ret;exact⟨aj (by first|(rw[R.o];done)|(rw[R.o];rfl)|(rw[R.o];simp;done)|(rw[R.o];simp;omega)),Zb⟩
  skip;have R:=zq (show r=false from by
   rw[hr];refine decide_eq_false ?_
   first|(simp[dX.Ok,h0];done)|(simp only[dX.Ok,h0,true_and,and_true];omega)|(simp[dX.Ok,h0];omega))
  have Kh0:=zq (fun W=>kV h0 hs W);clear h0;clear hr
  go_enter Tryz.func73,Tryz.ntmps73
  go_wp2_with fail
  refine (Kh0.o _).mono ?_;rintro e w' ⟨rfl,rfl⟩
  go_wp2_with fail
  go_ret;exact⟨aj (by first|(rw[R.o];done)|(rw[R.o];rfl)|(rw[R.o];simp;done)|(rw[R.o];simp;omega)),Zb⟩
 case false =>
  have R:=zq (show r=false from by
   rw[hr];refine decide_eq_false ?_
   first|(simp[dX.Ok,h0];done)|(simp only[dX.Ok,h0,true_and,and_true];omega)|(simp[dX.Ok,h0];omega))
  have Kh0:=zq (fun W=>kV h0 hs W);clear h0;clear hr
  go_enter Tryz.func73,Tryz.ntmps73
  go_wp2_with fail
  refine (Kh0.o _).mono ?_;rintro e w' ⟨rfl,rfl⟩
  go_wp2_with fail
  go_ret;exact⟨aj (by first|(rw[R.o];done)|(rw[R.o];rfl)|(rw[R.o];simp;done)|(rw[R.o];simp;omega)),Zb⟩
open Classical in
theorem Dy (x:Ins) (n:Nat) (hn:n<=6) (w:World):Calls Tryz.prog 74 #[.agg #[.int .i64 x.kind,.int .i64 x.under,.int .i64 x.mult,.int .i64 x.strike,.int .i64 x.aN,.bool x.call,.int .i64 x.mark],.int .i64 (n:Nat)] w fun e w'=>e=.returned (.bool (decide (x.Ok n)))/\Below w.heap.size w w':=by
 obtain⟨r,hr⟩:=Zn (decide (x.Ok n));rw[<-hr];have n0:(0:Int)<=(n:Int):=by omega
 have n1:(n:Int)<=6:=by omega
 by_cases h0:x.kind<1
 ·skip;have R:=zq (show r=false from by
   rw[hr];refine decide_eq_false ?_
   first|(simp[Ins.Ok];done)|(simp only[Ins.Ok,true_and,and_true];omega)|(simp[Ins.Ok];omega))
  clear hr
  go_enter Tryz.func74,Tryz.ntmps74
  go_wp2_with fail
  go_ret;exact⟨aj (by first|(rw[R.o];done)|(rw[R.o];rfl)|(rw[R.o];simp;done)|(rw[R.o];simp;omega)),Zb⟩
 skip;by_cases h1:3<x.kind
 ·skip;have R:=zq (show r=false from by
   rw[hr];refine decide_eq_false ?_
   first|(simp[Ins.Ok];done)|(simp only[Ins.Ok,true_and,and_true];omega)|(simp[Ins.Ok];omega))
  clear hr
  go_enter Tryz.func74,Tryz.ntmps74
  go_wp2_with fail
  go_ret;exact⟨aj (by first|(rw[R.o];done)|(rw[R.o];rfl)|(rw[R.o];simp;done)|(rw[R.o];simp;omega)),Zb⟩
 skip;by_cases h2:x.under<0
 ·skip;have R:=zq (show r=false from by
   rw[hr];refine decide_eq_false ?_
   first|(simp[Ins.Ok];done)|(simp only[Ins.Ok,true_and,and_true];omega)|(simp[Ins.Ok];omega))
  clear hr
  go_enter Tryz.func74,Tryz.ntmps74
  go_wp2_with fail
  go_ret;exact⟨aj (by first|(rw[R.o];done)|(rw[R.o];rfl)|(rw[R.o];simp;done)|(rw[R.o];simp;omega)),Zb⟩
 skip;by_cases h3:(n:Int)<=x.under
 ·skip;have R:=zq (show r=false from by
   rw[hr];refine decide_eq_false ?_
   first|(simp[Ins.Ok];done)|(simp only[Ins.Ok,true_and,and_true];omega)|(simp[Ins.Ok];omega))
  clear hr
  go_enter Tryz.func74,Tryz.ntmps74
  go_wp2_with fail
  go_ret;exact⟨aj (by first|(rw[R.o];done)|(rw[R.o];rfl)|(rw[R.o];simp;done)|(rw[R.o];simp;omega)),Zb⟩
 skip;by_cases h4:x.mult<1
 ·skip;have R:=zq (show r=false from by
   rw[hr];refine decide_eq_false ?_
   first|(simp[Ins.Ok];done)|(simp only[Ins.Ok,true_and,and_true];omega)|(simp[Ins.Ok];omega))
  clear hr
  go_enter Tryz.func74,Tryz.ntmps74
  go_wp2_with fail
  go_ret;exact⟨aj (by first|(rw[R.o];done)|(rw[R.o];rfl)|(rw[R.o];simp;done)|(rw[R.o];simp;omega)),Zb⟩
 skip;by_cases h5:1000000<x.mult
 ·skip;have R:=zq (show r=false from by
   rw[hr];refine decide_eq_false ?_
   first|(simp[Ins.Ok];done)|(simp only[Ins.Ok,true_and,and_true];omega)|(simp[Ins.Ok];omega))
  clear hr
  go_enter Tryz.func74,Tryz.ntmps74
  go_wp2_with fail
  go_ret;exact⟨aj (by first|(rw[R.o];done)|(rw[R.o];rfl)|(rw[R.o];simp;done)|(rw[R.o];simp;omega)),Zb⟩
 skip;by_cases h6:x.mark<0
 ·skip;have R:=zq (show r=false from by
   rw[hr];refine decide_eq_false ?_
   first|(simp[Ins.Ok];done)|(simp only[Ins.Ok,true_and,and_true];omega)|(simp[Ins.Ok];omega))
  clear hr
  go_enter Tryz.func74,Tryz.ntmps74
  go_wp2_with fail
  go_ret;exact⟨aj (by first|(rw[R.o];done)|(rw[R.o];rfl)|(rw[R.o];simp;done)|(rw[R.o];simp;omega)),Zb⟩
 skip;by_cases h7:100000000000000<x.mark
 ·skip;have R:=zq (show r=false from by
   rw[hr];refine decide_eq_false ?_
   first|(simp[Ins.Ok];done)|(simp only[Ins.Ok,true_and,and_true];omega)|(simp[Ins.Ok];omega))
  clear hr
  go_enter Tryz.func74,Tryz.ntmps74
  go_wp2_with fail
  go_ret;exact⟨aj (by first|(rw[R.o];done)|(rw[R.o];rfl)|(rw[R.o];simp;done)|(rw[R.o];simp;omega)),Zb⟩
 skip;by_cases h8:x.kind=3
 ·skip;by_cases h9:x.strike<1
  ·skip;have R:=zq (show r=false from by
    rw[hr];refine decide_eq_false ?_
    first|(simp[Ins.Ok];done)|(simp only[Ins.Ok,true_and,and_true];omega)|(simp[Ins.Ok];omega))
   have eh8:(x.kind==3)=true:=beq_iff_eq.2 h8;have gh8:(x.kind != 3)=false:=show (!(x.kind==3))=_ from by rw[eh8];rfl
   clear h8;clear hr
   go_enter Tryz.func74,Tryz.ntmps74
   go_wp2_with fail
   go_ret;exact⟨aj (by first|(rw[R.o];done)|(rw[R.o];rfl)|(rw[R.o];simp;done)|(rw[R.o];simp;omega)),Zb⟩
  skip;by_cases h10:1000000000000<x.strike
  ·skip;have R:=zq (show r=false from by
    rw[hr];refine decide_eq_false ?_
    first|(simp[Ins.Ok];done)|(simp only[Ins.Ok,true_and,and_true];omega)|(simp[Ins.Ok];omega))
   have eh8:(x.kind==3)=true:=beq_iff_eq.2 h8;have gh8:(x.kind != 3)=false:=show (!(x.kind==3))=_ from by rw[eh8];rfl
   clear h8;clear hr
   go_enter Tryz.func74,Tryz.ntmps74
   go_wp2_with fail
   go_ret;exact⟨aj (by first|(rw[R.o];done)|(rw[R.o];rfl)|(rw[R.o];simp;done)|(rw[R.o];simp;omega)),Zb⟩
  skip;have h11:¬ x.kind=1:=by omega
  by_cases h12:1<=x.aN
  ·skip;by_cases h13:x.aN<=100000
   ·skip;have R:=zq (show r=true from by
     rw[hr];refine decide_eq_true ?_
     first|(simp[Ins.Ok];done)|(simp only[Ins.Ok,true_and,and_true];omega)|(simp[Ins.Ok];omega))
    have eh8:(x.kind==3)=true:=beq_iff_eq.2 h8;have gh8:(x.kind != 3)=false:=show (!(x.kind==3))=_ from by rw[eh8];rfl
    have eh11:(x.kind==1)=false:=beq_eq_false_iff_ne.2 h11;have gh11:(x.kind != 1)=true:=show (!(x.kind==1))=_ from by rw[eh11];rfl
    clear h8;clear h11;clear hr
    go_enter Tryz.func74,Tryz.ntmps74
    go_wp2_with fail
    go_ret;exact⟨aj (by first|(rw[R.o];done)|(rw[R.o];rfl)|(rw[R.o];simp;done)|(rw[R.o];simp;omega)),Zb⟩
   skip;have R:=zq (show r=false from by
    rw[hr];refine decide_eq_false ?_
    first|(simp[Ins.Ok];done)|(simp only[Ins.Ok,true_and,and_true];omega)|(simp[Ins.Ok];omega))
   have eh8:(x.kind==3)=true:=beq_iff_eq.2 h8;have gh8:(x.kind != 3)=false:=show (!(x.kind==3))=_ from by rw[eh8];rfl
   have eh11:(x.kind==1)=false:=beq_eq_false_iff_ne.2 h11;have gh11:(x.kind != 1)=true:=show (!(x.kind==1))=_ from by rw[eh11];rfl
   clear h8;clear h11;clear hr
   go_enter Tryz.func74,Tryz.ntmps74
   go_wp2_with fail
   go_ret;exact⟨aj (by first|(rw[R.o];done)|(rw[R.o];rfl)|(rw[R.o];simp;done)|(rw[R.o];simp;omega)),Zb⟩
  skip;have R:=zq (show r=false from by
   rw[hr];refine decide_eq_false ?_
   first|(simp[Ins.Ok];done)|(simp only[Ins.Ok,true_and,and_true];omega)|(simp[Ins.Ok];omega))
  have eh8:(x.kind==3)=true:=beq_iff_eq.2 h8;have gh8:(x.kind != 3)=false:=show (!(x.kind==3))=_ from by rw[eh8];rfl
  have eh11:(x.kind==1)=false:=beq_eq_false_iff_ne.2 h11;have gh11:(x.kind != 1)=true:=show (!(x.kind==1))=_ from by rw[eh11];rfl
  clear h8;clear h11;clear hr
  go_enter Tryz.func74,Tryz.ntmps74
  go_wp2_with fail
  go_ret;exact⟨aj (by first|(rw[R.o];done)|(rw[R.o];rfl)|(rw[R.o];simp;done)|(rw[R.o];simp;omega)),Zb⟩
 skip;by_cases h9:x.strike=0
 ·skip;cases h10:x.call
  case true =>
   have R:=zq (show r=false from by
    rw[hr];refine decide_eq_false ?_
    first|(simp[Ins.Ok,h10];done)|(simp only[Ins.Ok,h10,true_and,and_true];omega)|(simp[Ins.Ok,h10];omega))
   have eh8:(x.kind==3)=false:=beq_eq_false_iff_ne.2 h8;have gh8:(x.kind != 3)=true:=show (!(x.kind==3))=_ from by rw[eh8];rfl
   have eh9:(x.strike==0)=true:=beq_iff_eq.2 h9;have gh9:(x.strike != 0)=false:=show (!(x.strike==0))=_ from by rw[eh9];rfl
   clear h8;clear h9;clear hr
   go_enter Tryz.func74,Tryz.ntmps74
   go_wp2_with fail
   go_ret;exact⟨aj (by first|(rw[R.o];done)|(rw[R.o];rfl)|(rw[R.o];simp;done)|(rw[R.o];simp;omega)),Zb⟩
  case false =>
   by_cases h11:x.kind=1
   ·skip;by_cases h12:x.aN=0
    ·skip;have R:=zq (show r=true from by
      rw[hr];refine decide_eq_true ?_
      first|(simp[Ins.Ok,h10];done)|(simp only[Ins.Ok,h10,true_and,and_true];omega)|(simp[Ins.Ok,h10];omega))
     have eh8:(x.kind==3)=false:=beq_eq_false_iff_ne.2 h8;have gh8:(x.kind != 3)=true:=show (!(x.kind==3))=_ from by rw[eh8];rfl
     have eh9:(x.strike==0)=true:=beq_iff_eq.2 h9;have gh9:(x.strike != 0)=false:=show (!(x.strike==0))=_ from by rw[eh9];rfl
     have eh11:(x.kind==1)=true:=beq_iff_eq.2 h11;have gh11:(x.kind != 1)=false:=show (!(x.kind==1))=_ from by rw[eh11];rfl
     have eh12:(x.aN==0)=true:=beq_iff_eq.2 h12;have gh12:(x.aN != 0)=false:=show (!(x.aN==0))=_ from by rw[eh12];rfl
     clear h8;clear h9;clear h11;clear h12;clear hr
     go_enter Tryz.func74,Tryz.ntmps74
     go_wp2_with fail
     go_ret;exact⟨aj (by first|(rw[R.o];done)|(rw[R.o];rfl)|(rw[R.o];simp;done)|(rw[R.o];simp;omega)),Zb⟩
    skip;have R:=zq (show r=false from by
     rw[hr];refine decide_eq_false ?_
     first|(simp[Ins.Ok,h10];done)|(simp only[Ins.Ok,h10,true_and,and_true];omega)|(simp[Ins.Ok,h10];omega))
    have eh8:(x.kind==3)=false:=beq_eq_false_iff_ne.2 h8;have gh8:(x.kind != 3)=true:=show (!(x.kind==3))=_ from by rw[eh8];rfl
    have eh9:(x.strike==0)=true:=beq_iff_eq.2 h9;have gh9:(x.strike != 0)=false:=show (!(x.strike==0))=_ from by rw[eh9];rfl
    have eh11:(x.kind==1)=true:=beq_iff_eq.2 h11;have gh11:(x.kind != 1)=false:=show (!(x.kind==1))=_ from by rw[eh11];rfl
    have eh12:(x.aN==0)=false:=beq_eq_false_iff_ne.2 h12;have gh12:(x.aN != 0)=true:=show (!(x.aN==0))=_ from by rw[eh12];rfl
    clear h8;clear h9;clear h11;clear h12;clear hr
    go_enter Tryz.func74,Tryz.ntmps74
    go_wp2_with fail
    go_ret;exact⟨aj (by first|(rw[R.o];done)|(rw[R.o];rfl)|(rw[R.o];simp;done)|(rw[R.o];simp;omega)),Zb⟩
   skip;by_cases h12:1<=x.aN
   ·skip;by_cases h13:x.aN<=100000
    ·skip;have R:=zq (show r=true from by
      rw[hr];refine decide_eq_true ?_
      first|(simp[Ins.Ok,h10];done)|(simp only[Ins.Ok,h10,true_and,and_true];omega)|(simp[Ins.Ok,h10];omega))
     have eh8:(x.kind==3)=false:=beq_eq_false_iff_ne.2 h8;have gh8:(x.kind != 3)=true:=show (!(x.kind==3))=_ from by rw[eh8];rfl
     have eh9:(x.strike==0)=true:=beq_iff_eq.2 h9;have gh9:(x.strike != 0)=false:=show (!(x.strike==0))=_ from by rw[eh9];rfl
     have eh11:(x.kind==1)=false:=beq_eq_false_iff_ne.2 h11;have gh11:(x.kind != 1)=true:=show (!(x.kind==1))=_ from by rw[eh11];rfl
     clear h8;clear h9;clear h11;clear hr
     go_enter Tryz.func74,Tryz.ntmps74
     go_wp2_with fail
     go_ret;exact⟨aj (by first|(rw[R.o];done)|(rw[R.o];rfl)|(rw[R.o];simp;done)|(rw[R.o];simp;omega)),Zb⟩
    skip;have R:=zq (show r=false from by
     rw[hr];refine decide_eq_false ?_
     first|(simp[Ins.Ok,h10];done)|(simp only[Ins.Ok,h10,true_and,and_true];omega)|(simp[Ins.Ok,h10];omega))
    have eh8:(x.kind==3)=false:=beq_eq_false_iff_ne.2 h8;have gh8:(x.kind != 3)=true:=show (!(x.kind==3))=_ from by rw[eh8];rfl
    have eh9:(x.strike==0)=true:=beq_iff_eq.2 h9;have gh9:(x.strike != 0)=false:=show (!(x.strike==0))=_ from by rw[eh9];rfl
    have eh11:(x.kind==1)=false:=beq_eq_false_iff_ne.2 h11;have gh11:(x.kind != 1)=true:=show (!(x.kind==1))=_ from by rw[eh11];rfl
    clear h8;clear h9;clear h11;clear hr
    go_enter Tryz.func74,Tryz.ntmps74
    go_wp2_with fail
    go_ret;exact⟨aj (by first|(rw[R.o];done)|(rw[R.o];rfl)|(rw[R.o];simp;done)|(rw[R.o];simp;omega)),Zb⟩
   skip;have R:=zq (show r=false from by
    rw[hr];refine decide_eq_false ?_
    first|(simp[Ins.Ok,h10];done)|(simp only[Ins.Ok,h10,true_and,and_true];omega)|(simp[Ins.Ok,h10];omega))
   have eh8:(x.kind==3)=false:=beq_eq_false_iff_ne.2 h8;have gh8:(x.kind != 3)=true:=show (!(x.kind==3))=_ from by rw[eh8];rfl
   have eh9:(x.strike==0)=true:=beq_iff_eq.2 h9;have gh9:(x.strike != 0)=false:=show (!(x.strike==0))=_ from by rw[eh9];rfl
   have eh11:(x.kind==1)=false:=beq_eq_false_iff_ne.2 h11;have gh11:(x.kind != 1)=true:=show (!(x.kind==1))=_ from by rw[eh11];rfl
   clear h8;clear h9;clear h11;clear hr
   go_enter Tryz.func74,Tryz.ntmps74
   go_wp2_with fail
   go_ret;exact⟨aj (by first|(rw[R.o];done)|(rw[R.o];rfl)|(rw[R.o];simp;done)|(rw[R.o];simp;omega)),Zb⟩
 skip;have R:=zq (show r=false from by
  rw[hr];refine decide_eq_false ?_
  first|(simp[Ins.Ok];done)|(simp only[Ins.Ok,true_and,and_true];omega)|(simp[Ins.Ok];omega))
 have eh8:(x.kind==3)=false:=beq_eq_false_iff_ne.2 h8;have gh8:(x.kind != 3)=true:=show (!(x.kind==3))=_ from by rw[eh8];rfl
 have eh9:(x.strike==0)=false:=beq_eq_false_iff_ne.2 h9;have gh9:(x.strike != 0)=true:=show (!(x.strike==0))=_ from by rw[eh9];rfl
 clear h8;clear h9;clear hr
 go_enter Tryz.func74,Tryz.ntmps74
 go_wp2_with fail
 go_ret;exact⟨aj (by first|(rw[R.o];done)|(rw[R.o];rfl)|(rw[R.o];simp;done)|(rw[R.o];simp;omega)),Zb⟩
theorem mJ (a b:ByteArray):(a.toList==b.toList)=true↔a=b:=by
 rw[beq_iff_eq,ByteArray.toList_eq,ByteArray.toList_eq]
 constructor
 ·intro h;exact ByteArray.ext (by simpa [Array.toList_inj] using h)
 intro h;rw[h]
structure aY (w:World) (b:Nat) (cs:Array Value):Prop where
 at_:∀ (j:Nat) v,cs[j]?=some v->w.cell? ⟨b,j,none⟩=some v
 lt:b<w.heap.size
theorem aY.mod {w w':World} {b:Nat} {cs:Array Value} {S:Nat->Prop} (h:aY w b cs) (hm:Mod S w w') (hS:¬ S b):aY w' b cs :=
 ⟨fun j v hj=>hm.cell (h.at_ j v hj) hS,Nat.lt_of_lt_of_le h.lt hm.size⟩
theorem aY.below {w w':World} {b:Nat} {cs:Array Value} (h:aY w b cs) (hb:Below w.heap.size w w'):aY w' b cs:=h.mod (Mod.of_below hb) (fun h=>h)
theorem aY.new (w:World) (cs:Array Value) (T:TypeId):aY (w.alloc (.cells cs T)) w.heap.size cs :=
 ⟨fun j v hj=>by rw[cell_of_heap (heap_alloc_new w _)];exact hj,by simp⟩
theorem Fq (w:World) (u:dX) (s:ByteArray) (b:Nat) (hb:w.cell? ⟨b,0,none⟩=some (.string s)) :
 Calls Tryz.prog 90 #[.agg #[.string u.name,.int .i64 u.cur,.int .i64 u.price,.int .i64 u.cZ],.pointer (some ⟨b,0,none⟩)] w fun e w'=>e=.returned (.bool (u.name.toList==s.toList))/\Below w.heap.size w w':=by
 have M:=(Mod.refl (fun _=>False) w).alloc (.cells #[.string u.name,.int .i64 u.cur,.int .i64 u.price,.int .i64 u.cZ] 48);have c:=M.cell hb (fun h=>h);clear M hb
 go_enter Tryz.func90,Tryz.ntmps90
 go_wp2_with fail
 go_ret;refine⟨?_,Zb⟩;rfl
theorem JG (w:World) (v:Value) (l:List dX) (s:ByteArray) (hR:RowOf w 4 dX.cells v l) :
 Calls Tryz.prog 51 #[v,.string s] w fun e w'=>e=.returned (.int .i64 (jS (fun u=>u.name.toList==s.toList) l))/\Below w.heap.size w w':=by
 have B1:=zq ((Below.refl w.heap.size w).alloc (Nat.le_refl _) (.cells #[.string s] 9));have X:=aY.new w #[.string s] 9;have FI:=zq (wE (w.alloc (.cells #[.string s] 9)) v l 90 #[.pointer (some ⟨w.heap.size,0,none⟩)] (fun u=>u.name.toList==s.toList) (enters_of Tryz.func90 (by kernel_rfl) rfl) (hR.below B1.o)
  (fun W x hb hx=>Fq W x s w.heap.size ((X.below hb).at_ 0 _ rfl)))
 obtain⟨R,hRr⟩:∃ R,R=jS (fun u=>u.name.toList==s.toList) l:=⟨_,rfl⟩;rw[<-hRr] at FI ⊢;obtain⟨a,c,rfl⟩:=hR.form;clear hRr hR X
 go_enter Tryz.func51,Tryz.ntmps51
 go_wp2_with fail
 refine FI.o.mono ?_;rintro e w' ⟨rfl,hb⟩;have B:=zq (B1.o.trans (hb.mono (by simp)));clear hb
 go_wp2_with fail
 go_ret;exact⟨rfl,B.o⟩
open Classical in
theorem D7 (w:World) (x:Ins) (n:Nat) (hn:n<=6) (b:Nat) (a:Option Addr) (cc:Nat) (hb:w.cell? ⟨b,2,none⟩=some (.slice a n cc)) :
 Calls Tryz.prog 134 #[.agg #[.int .i64 x.kind,.int .i64 x.under,.int .i64 x.mult,.int .i64 x.strike,.int .i64 x.aN,.bool x.call,.int .i64 x.mark],.pointer (some ⟨b,0,none⟩)] w fun e w'=>e=.returned (.bool (!decide (x.Ok n)))/\Below w.heap.size w w':=by
 have B1:=zq ((Below.refl w.heap.size w).alloc (Nat.le_refl _) (.cells #[.int .i64 x.kind,.int .i64 x.under,.int .i64 x.mult,.int .i64 x.strike,.int .i64 x.aN,.bool x.call,.int .i64 x.mark] 66));have M:=(Mod.refl (fun _=>False) w).alloc (.cells #[.int .i64 x.kind,.int .i64 x.under,.int .i64 x.mult,.int .i64 x.strike,.int .i64 x.aN,.bool x.call,.int .i64 x.mark] 66);have c:=M.cell hb (fun h=>h);obtain⟨R,hRr⟩:=Zn (decide (x.Ok n));have I:=zq (ins_any x n hn);rw[<-hRr] at I ⊢;clear M hb hRr
 go_enter Tryz.func134,Tryz.ntmps134
 go_wp2_with fail
 refine (I.o _).mono ?_;rintro e w' ⟨rfl,hb⟩;have B:=zq (B1.o.trans (hb.mono (by simp)));clear hb
 go_wp2_with fail
 go_ret;exact⟨rfl,B.o⟩
theorem yA (w:World) (x:Int) (hx:I64 x) :
 Calls Tryz.prog 138 #[.int .i64 x] w fun e w'=>e=.returned (.bool (!aO x))/\Below w.heap.size w w':=by
 have F:=zq (yZ x hx);obtain⟨R,hRr⟩:=Zn (aO x);rw[<-hRr] at F ⊢;clear hRr hx
 go_enter Tryz.func138,Tryz.ntmps138
 go_wp2_with fail
 refine (F.o _).mono ?_;rintro e w' ⟨rfl,rfl⟩
 go_wp2_with fail
 go_ret;exact⟨rfl,Below.refl _ _⟩
theorem Ju (w:World) (o:Ord) (p:List (Acc×Value)) (x:Acc×Value) (b:Nat) (a:Option Addr) (cc:Nat) (hb:w.cell? ⟨b,4,none⟩=some (.slice a p.length cc)) (hR:RowOf w 4 Acc.cells (.slice a p.length cc) p)
 (h0:0<=o.ak) (hx:p[o.ak.toNat]?=some x) :
 Calls Tryz.prog 100 #[.agg #[.int .i64 o.ak,.int .i64 o.id,.int .i64 o.instr,.int .i64 o.qty,.int .i64 o.price],.pointer (some ⟨b,0,none⟩)] w fun e w'=>e=.returned (.bool (decide (x.1.last<o.id)))/\Below w.heap.size w w':=by
 have B1:=zq ((Below.refl w.heap.size w).alloc (Nat.le_refl _) (.cells #[.int .i64 o.ak,.int .i64 o.id,.int .i64 o.instr,.int .i64 o.qty,.int .i64 o.price] 74));have M:=(Mod.refl (fun _=>False) w).alloc (.cells #[.int .i64 o.ak,.int .i64 o.id,.int .i64 o.instr,.int .i64 o.qty,.int .i64 o.price] 74);have c:=M.cell hb (fun h=>h);obtain⟨ab,ao,rfl,_,hc⟩:=hR.at_ hx;obtain⟨k,hk⟩:∃ k:Nat,o.ak=(k:Int):=⟨o.ak.toNat,by omega⟩;have kt:o.ak.toNat=k:=by omega
 rw[kt] at hc;have c3:=M.cell (hc 3 (.int .i64 x.1.last) rfl) (fun h=>h);have k1:k<p.length:=by rw[kt] at hx;exact (List.getElem?_eq_some_iff.1 hx).1
 have i1:(0:Int)<=o.ak:=h0;have i2:o.ak<(p.length:Int):=by omega
 rw[hk] at B1 c c3 i1 i2 ⊢;clear M hb hR hc hx h0 k1 kt hk
 go_enter Tryz.func100,Tryz.ntmps100
 go_wp2_with fail
 go_quiet (fail)
 go_wp2_with fail
 go_ret;exact⟨rfl,below_drewN B1.o _⟩
def bI (f:Nat->Int):Array Value:=((List.range 21).map fun s=>Value.int .i64 (f s)).toArray
structure yx (w wr:World) (H6 H8:Nat) (ci cu:Array Value) (f:Nat->Int) (k:Nat):Prop where
 bi:aY wr w.heap.size ci
 bu:aY wr (w.heap.size+1) cu
 res:∃ Z,wr.heap[H6]?=some (.cells Z 191 (0,0))/\Z.size=21
 arr:∃ A,wr.heap[H8]?=some (.cells A 191 (0,0))/\A.size=21/\∀ j,j<k->A[j]?=some (.int .i64 (f j))
 low:Below w.heap.size w wr
theorem yx.below {w wr w':World} {H6 H8:Nat} {ci cu:Array Value} {f:Nat->Int} {k:Nat} (h:yx w wr H6 H8 ci cu f k) (hb:Below wr.heap.size wr w'):yx w w' H6 H8 ci cu f k:=by
 obtain⟨Z,hz,zs⟩:=h.res;obtain⟨A,ha,as1,as2⟩:=h.arr;exact⟨h.bi.below hb,h.bu.below hb,⟨Z,(Mod.of_below hb).heap hz (fun h=>h),zs⟩,⟨A,(Mod.of_below hb).heap ha (fun h=>h),as1,as2⟩,h.low.trans (hb.mono h.low.size)⟩
theorem yx.next {w wr:World} {H6 H8:Nat} {ci cu:Array Value} {f:Nat->Int} {k:Nat} (h:yx w wr H6 H8 ci cu f k) (h68:H6=w.heap.size+2/\H8=w.heap.size+3) (hk:k<21) (x:Int) (hx:x=f k) :
 yx w (wr.setCell ⟨H8,k,none⟩ (.int .i64 x)) H6 H8 ci cu f (k+1):=by
 obtain⟨rfl,rfl⟩:=h68;have M:=(Mod.refl (fun j=>j=w.heap.size+3) wr).setCell (p:=⟨w.heap.size+3,k,none⟩) (.int .i64 x) (fun _=>rfl);obtain⟨Z,hz,zs⟩:=h.res;obtain⟨A,ha,as1,as2⟩:=h.arr;refine⟨h.bi.mod M (by omega),h.bu.mod M (by omega),⟨Z,M.heap hz (by omega),zs⟩,⟨A.setIfInBounds k (.int .i64 x),bC ha k _,by simp[as1],fun j hj=>?_⟩,h.low.setCell (by show w.heap.size<=w.heap.size+3;omega) _⟩;by_cases e:j=k
 ·subst e;rw[Array.getElem?_setIfInBounds_self_of_lt (by omega),hx]
 rw[Array.getElem?_setIfInBounds_ne (by omega)];exact as2 j (by omega)
theorem uU {A:Array Value} {f:Nat->Int} (h1:A.size=21) (h2:∀ j,j<21->A[j]?=some (.int .i64 (f j))):A=bI f:=by
 apply Array.ext_getElem?
 intro j;by_cases hj:j<21
 ·rw[h2 j hj];simp[bI,hj]
 rw[Array.getElem?_eq_none (by omega),Array.getElem?_eq_none (by simp[bI];omega)]
theorem jr {P:Program} {fn:Func} {p q:Tmp} {ty:TypeId} (h:fn.results=#[.cell p ty,.tmp q]) (tmps:Array Value) (w:World) (g:Nat) (t:TypeId) (cs:Array Value) (fr:Nat×Nat) (d:TypeDesc)
 (hp:tmps.getD p undef=.pointer (some ⟨g,0,none⟩)) (hg:w.heap[g]?=some (.cells cs t fr))
 (hu:P.underlying ty=some d) (hd:(match d with|.struct _|.array _ _=>true|_=>false)=true) (hi:(P.info? ty).map (·.size)=some cs.size) :
 (results fn tmps).run P w=.ok (.tuple #[.agg cs,tmps.getD q undef]) w:=by
 have hp':tmps[p]?.getD undef=.pointer (some ⟨g,0,none⟩):=by simpa using hp
 simp[results,h,hp',asAddr,run_loadVar_row w g t ty cs fr d hg hu hd hi]
theorem fM (f:Nat->Int):(bI f).all (·.oneCell')=true:=by
 rw[Array.all_eq_true];intro i hi;simp[bI,Value.oneCell']
theorem fA (f:Nat->Int):(bI f).size=21:=by simp[bI]
theorem yj:Hid (Tryz.prog.underlying 191=some (.array 21 3)):=zq (by kernel_rfl)
theorem Qa:(Tryz.prog.info? 191).map (·.size)=some 21:=by kernel_rfl
theorem ou (f:Nat->Int):Hid ((Tryz.prog.info? 191).map (·.size)=some (bI f).size):=zq (by rw[fA];exact Qa)
theorem KE (i:Ins) (u:dX) (n m:Nat) (hi:i.Ok n) (hu:u.Ok m) (day:Int) (d0:0<=day) (d1:day<=100000) (w:World) (hG:rF w) :
 Calls Tryz.prog 210 #[.agg #[.int .i64 i.kind,.int .i64 i.under,.int .i64 i.mult,.int .i64 i.strike,.int .i64 i.aN,.bool i.call,.int .i64 i.mark],.agg #[.string u.name,.int .i64 u.cur,.int .i64 u.price,.int .i64 u.cZ],.int .i64 day] w fun e w'=>e=.returned (.tuple #[.agg (bI fun s=>(o9 i u day s).1),.int .i64 0])/\Below w.heap.size w w':=by
 have HI:=zq hi;have HU:=zq hu;have HG:=zq hG;have D01:=zq (And.intro d0 d1);obtain⟨f,hf⟩:∃ f:Nat->Int,f=fun s=>(o9 i u day s).1:=⟨_,rfl⟩
 rw[<-hf];have EF:=zq hf;clear hi hu hG hf d0 d1;obtain⟨ci,hci⟩:∃ ci:Array Value,ci=#[.int .i64 i.kind,.int .i64 i.under,.int .i64 i.mult,.int .i64 i.strike,.int .i64 i.aN,.bool i.call,.int .i64 i.mark]:=⟨_,rfl⟩;obtain⟨cu,hcu⟩:∃ cu:Array Value,cu=#[.string u.name,.int .i64 u.cur,.int .i64 u.price,.int .i64 u.cZ]:=⟨_,rfl⟩;have ECI:=zq hci;have ECU:=zq hcu;have START:=zq (show yx w ((((w.alloc (.cells ci 66)).alloc (.cells cu 48)).alloc (.cells (Array.replicate 21 (.int .i64 0)) 191)).alloc (.cells (Array.replicate 21 (.int .i64 0)) 191)) (w.heap.size+1+1) (w.heap.size+1+1+1) ci cu f 0 from by
  have x1:=aY.new w ci 66;have x2:=aY.new (w.alloc (.cells ci 66)) cu 48;have M3:=(Mod.refl (fun _=>False) ((w.alloc (.cells ci 66)).alloc (.cells cu 48))).alloc (.cells (Array.replicate 21 (.int .i64 0)) 191);have M4:=M3.alloc (.cells (Array.replicate 21 (.int .i64 0)) 191);have M2:=(Mod.refl (fun _=>False) (w.alloc (.cells ci 66))).alloc (.cells cu 48);have h3:=heap_alloc_new ((w.alloc (.cells ci 66)).alloc (.cells cu 48)) (.cells (Array.replicate 21 (.int .i64 0)) 191);have h4:=heap_alloc_new (((w.alloc (.cells ci 66)).alloc (.cells cu 48)).alloc (.cells (Array.replicate 21 (.int .i64 0)) 191)) (.cells (Array.replicate 21 (.int .i64 0)) 191);refine⟨(x1.mod M2 (fun h=>h)).mod M4 (fun h=>h),by have:=x2.mod M4 (fun h=>h);simpa using this,⟨_,(((Mod.refl (fun _=>False) _).alloc (.cells (Array.replicate 21 (.int .i64 0)) 191)).heap (by simpa using h3) (fun h=>h)),by simp⟩,⟨_,by simpa using h4,by simp,fun j hj=>by omega⟩,?_⟩;exact ((((Below.refl _ w).alloc (Nat.le_refl _) _).alloc (by simp) _).alloc (by simp;omega) _).alloc (by simp;omega) _)
 rw[hci,hcu] at START;clear hci hcu
 go_enter Tryz.func210,Tryz.ntmps210
 go_wp2_with fail
 obtain⟨W,hW⟩:=Zn (((((w.alloc (.cells #[.int .i64 i.kind,.int .i64 i.under,.int .i64 i.mult,.int .i64 i.strike,.int .i64 i.aN,.bool i.call,.int .i64 i.mark] 66)).alloc (.cells #[.string u.name,.int .i64 u.cur,.int .i64 u.price,.int .i64 u.cZ] 48)).alloc (.cells (Array.replicate 21 (.int .i64 0)) 191)).alloc (.cells (Array.replicate 21 (.int .i64 0)) 191)));have hW2:=hW
 simp only[show Array.replicate 21 (Value.int .i64 0)=#[.int .i64 0,.int .i64 0,.int .i64 0,.int .i64 0,.int .i64 0,.int .i64 0,.int .i64 0,.int .i64 0,.int .i64 0,.int .i64 0,.int .i64 0,.int .i64 0,.int .i64 0,.int .i64 0,.int .i64 0,.int .i64 0,.int .i64 0,.int .i64 0,.int .i64 0,.int .i64 0,.int .i64 0] from rfl] at hW2 
 rw[<-hW2];rw[<-hW,<-ECI.o,<-ECU.o] at START;clear hW hW2;obtain⟨H8,h8⟩:=Zn (w.heap.size+1+1+1);obtain⟨H6,h6⟩:=Zn (w.heap.size+1+1);rw[<-h8,<-h6] at START ⊢;have H68:=zq (show H6=w.heap.size+2/\H8=w.heap.size+3 from by omega);clear h8 h6
 go_loopw [13] (fun i wr=>∃ k:Nat,k<=21/\i=.int .i64 k/\yx w wr H6 H8 ci cu f k) (fun i _=>21 - (intOf i).toNat)
 case atStart=>exact⟨0,by omega,rfl,START.o⟩
 obtain⟨k,hk,rfl,hU⟩:=hrel;have UU:=zq hU;clear hU;by_cases hlt:k<21
 ·have hlt':(k:Int)<21:=by omega
  have k0:(0:Int)<=(k:Int):=by omega
  have LT:=zq hlt;have c2:wr.cell? ⟨w.heap.size+1,2,none⟩=some (.int .i64 u.price):=UU.o.bu.at_ 2 _ (by rw[ECU.o];rfl);have c3:wr.cell? ⟨w.heap.size+1,3,none⟩=some (.int .i64 u.cZ):=UU.o.bu.at_ 3 _ (by rw[ECU.o];rfl);obtain⟨_,_,_,q0,q1,r0,r1⟩:=HU.o;have PT:=zq (JU u.price u.cZ k hlt (by omega) q1 r0 r1 wr (HG.o.mod (Mod.mono (T:=fun k=>w.heap.size<=k) (Mod.of_below UU.o.low) (fun k hk h=>h.elim)) (by obtain⟨⟨_,_,h⟩,_⟩:=HG.o;have:=World.block_lt_of_cell? w ⟨_,0,none⟩ (cell_of_heap h 0);simp at this ⊢;omega) (by obtain⟨_,⟨_,_,h⟩⟩:=HG.o;have:=World.block_lt_of_cell? w ⟨_,0,none⟩ (cell_of_heap h 0);simp at this ⊢;omega)));clear q0 q1 r0 r1 hk hlt
  go_wp2_with fail
  refine PT.o.mono ?_;rintro e w1 ⟨rfl,hb⟩;have U1:=zq (UU.o.below hb);clear hb c2 c3;have i0:w1.cell? ⟨w.heap.size,0,none⟩=some (.int .i64 i.kind):=U1.o.bi.at_ 0 _ (by rw[ECI.o];rfl);have i1:w1.cell? ⟨w.heap.size,1,none⟩=some (.int .i64 i.under):=U1.o.bi.at_ 1 _ (by rw[ECI.o];rfl);have i2:w1.cell? ⟨w.heap.size,2,none⟩=some (.int .i64 i.mult):=U1.o.bi.at_ 2 _ (by rw[ECI.o];rfl);have i3:w1.cell? ⟨w.heap.size,3,none⟩=some (.int .i64 i.strike):=U1.o.bi.at_ 3 _ (by rw[ECI.o];rfl);have i4:w1.cell? ⟨w.heap.size,4,none⟩=some (.int .i64 i.aN):=U1.o.bi.at_ 4 _ (by rw[ECI.o];rfl);have i5:w1.cell? ⟨w.heap.size,5,none⟩=some (.bool i.call):=U1.o.bi.at_ 5 _ (by rw[ECI.o];rfl);have i6:w1.cell? ⟨w.heap.size,6,none⟩=some (.int .i64 i.mark):=U1.o.bi.at_ 6 _ (by rw[ECI.o];rfl)
  go_wp2_with fail
  clear i0 i1 i2 i3 i4 i5 i6;have UN:=zq (show Calls Tryz.prog 129 #[.agg #[.int .i64 i.kind,.int .i64 i.under,.int .i64 i.mult,.int .i64 i.strike,.int .i64 i.aN,.bool i.call,.int .i64 i.mark],.int .i64 (oU u.price k),.int .i64 (oV u.cZ k),.int .i64 day] w1 fun e w'=>e=.returned (.tuple #[.int .i64 (f k),.int .i64 0])/\Below w1.heap.size w1 w' from by
   obtain⟨_,_,_,q0,q1,r0,r1⟩:=HU.o;have hp:=nZ (show 0<=u.price by omega) q1 k;have hv:=og r0 r1 k;rw[EF.o];exact JQ i n HI.o _ _ day hp.2.1 hp.2.2 hv.2.1 hv.2.2 D01.o.1 D01.o.2 w1)
  refine UN.o.mono ?_;rintro e w2 ⟨rfl,hb⟩;have U2:=zq (U1.o.below hb);clear hb;obtain⟨A,ha,as1,as2⟩:=U2.o.arr;obtain⟨y,hy⟩:∃ y,A[k]?=some y:=⟨_,Array.getElem?_eq_getElem (by have:=LT.o;omega)⟩;have a0:w2.cell? ⟨H8,k,none⟩=some y:=(cell_of_heap ha k).trans hy;have z0:=aP ha k;clear ha as1 as2 hy
  go_wp2_with fail
  have U3:=zq (U2.o.next H68.o LT.o (f k) rfl);go_roundw
  case rel=>exact⟨k+1,by have:=LT.o;omega,by go_num,U3.o⟩
  case measure=>have:=LT.o;simp[intOf];omega
 have hlt':¬ (k:Int)<21:=by omega
 obtain⟨A,ha,as1,as2⟩:=UU.o.arr;obtain⟨Z,hz,zs⟩:=UU.o.res;obtain rfl:k=21:=by omega
 have EA:A=bI f:=uU as1 as2;subst EA;have HA:=zq ha;have HZ:=zq hz;have ZS:=zq zs;clear hlt hk as1 as2 ha hz zs hlt'
 go_wp2_with (first|(refine wpList_load_row rfl 191 (.tmp 8) rfl H8 rfl 191 _ (0,0) (.array 21 3) HA.o yj.o rfl (ou f).o ?_)|(refine wpList_store_row rfl 191 (.tmp 6) (.tmp 45) rfl H6 (bI f) rfl rfl 191 _ HZ.o (ou f).o ZS.o (fM f) ?_))
 have hg:(wr.setRow H6 (bI f)).heap[H6]?=some (.cells (bI f) 191 (0,0)):=setRow_heap _ _ _ _ _ _ HZ.o;refine bodyPost_ret (jr (q:=7) rfl _ _ H6 191 (bI f) (0,0) _ rfl hg yj.o rfl (ou f).o) rfl ⟨by rfl,?_⟩;exact below_setRow UU.o.low (by have:=H68.o;omega) _
theorem II (wr:World) (B:Nat) (hB:B<=wr.heap.size) (x:Int):(wr.alloc (.cells #[.int .i64 x] 3)).ownsRow B 3 1 (.slice (some ⟨wr.heap.size,0,none⟩) 1 1) 1 (dR [x]) :=
 ⟨rfl,Or.inr ⟨wr.heap.size,1,#[.int .i64 x],rfl,hB,by show (wr.heap.push _)[wr.heap.size]?=_;simp,Nat.le_refl _,by decide,rfl,rfl⟩⟩
def QT (ps:List Int) (v:Int):Prop:=iD ps/\0<=v/\v<ps.length
open Classical in
theorem Kw (w:World) (vv:Value) (ps:List Int) (v:Int) (hR:RowOf w 1 dw vv ps) :
 Calls Tryz.prog 199 #[vv,.int .i64 v] w fun e w'=>e=.returned (.bool (decide (QT ps v)))/\Below w.heap.size w w':=by
 have CK:=zq (check_any w vv ps hR);obtain⟨a,c,rfl⟩:=hR.form;obtain⟨R,hRr⟩:=Zn (decide (QT ps v));rw[<-hRr];have EQ:=zq hRr;obtain⟨N,hN⟩:=Zn ps.length;rw[<-hN] at CK ⊢;have LN:=zq hN;clear hR hRr hN
 go_enter Tryz.func199,Tryz.ntmps199
 go_wp2_with fail
 refine CK.o.mono ?_;rintro e w2 ⟨p,er,rfl,he,hb⟩;have B2:=zq hb;have ER:=zq he;clear hb he CK;by_cases h0:er=0
 case neg =>
  have FL:=zq (EQ.o.trans (Zf (fun h=>h0 (ER.o.2 h.1))));have e0:(er==0)=false:=beq_eq_false_iff_ne.2 h0;have e1:(er != 0)=true:=by rw[bne,e0];rfl
  clear h0
  go_wp2_with fail
  go_ret;exact⟨aj (by first|exact FL.o.symm|(rw[FL.o];simp;done)|(rw[FL.o];simp;omega)),B2.o⟩
 subst h0;have TOK:=zq (ER.o.1 rfl);by_cases h1:0<=v
 case neg =>
  have FL:=zq (EQ.o.trans (Zf (fun h=>h1 h.2.1)))
  go_wp2_with fail
  go_ret;exact⟨aj (by first|exact FL.o.symm|(rw[FL.o];simp;done)|(rw[FL.o];simp;omega)),B2.o⟩
 by_cases h2:v<(N:Int)
 case neg =>
  have FL:=zq (EQ.o.trans (Zf (fun h=>h2 (by have:=h.2.2;rw[LN.o];exact this))))
  go_wp2_with fail
  go_ret;exact⟨aj (by first|exact FL.o.symm|(rw[FL.o];simp;done)|(rw[FL.o];simp;omega)),B2.o⟩
 have FL:=zq (EQ.o.trans (decide_eq_true ⟨TOK.o,h1,by rw[<-LN.o];exact h2⟩))
 go_wp2_with fail
 go_ret;exact⟨aj (by first|exact FL.o.symm|(rw[FL.o];simp;done)|(rw[FL.o];simp;omega)),B2.o⟩
def ints (l:List Nat):List Int:=l.map fun x:Nat=>(x:Int)
theorem Oz (l:List Int) (y:Int):(l.any fun x=>decide (y=x))=decide (y∈l):=by
 rw[Bool.eq_iff_iff,List.any_eq_true,decide_eq_true_iff]
 constructor
 ·rintro⟨x,hx,h⟩;rw[of_decide_eq_true h];exact hx
 intro h;exact⟨y,h,decide_eq_true rfl⟩
open Classical in
theorem Jc (w:World) (vv:Value) (ps:List Int) (v:Nat) (hR:RowOf w 1 dw vv ps) (hT:iD ps) (hv:v<ps.length) :
 Calls Tryz.prog 190 #[vv,.int .i64 (v:Nat)] w (qc w (ints (gI ps v))):=by
 have CK:=zq (Kw w vv ps v hR);rw[decide_eq_true ⟨hT,by omega,by omega⟩] at CK;obtain⟨a,c,rfl⟩:=hR.form;have HR:=zq hR;have HT:=zq hT;obtain⟨N,hN⟩:=Zn ps.length;rw[<-hN] at CK HR ⊢;have LN:=zq hN;have n16:(N:Int)<=16:=by have:=hT.hi;omega
 have v0:(0:Int)<=(v:Int):=by omega
 have v1:(v:Int)<(N:Int):=by omega
 have HV:=zq hv;obtain⟨P,hP⟩:=Zn (gI ps v);rw[<-hP];have EP:=zq hP;clear hR hT hN hv hP
 go_enter Tryz.func190,Tryz.ntmps190
 go_wp2_with fail
 refine CK.o.mono ?_;rintro e w2 ⟨rfl,hb⟩;have B2:=zq hb;clear hb CK
 go_wp2_with fail
 go_loopw [5,6] (fun ov i wr=>∃ (k:Nat) (cur:List Int),v<k/\k<=N/\i=.int .i64 k/\Hid (cur=ints (iR ps v k))/\wr.ownsRow w.heap.size 3 1 ov cur.length (dR cur)/\Below w.heap.size w wr) (fun _ i _=>N - (intOf i).toNat)
 case atStart=>exact⟨v+1,[(v:Int)],by omega,by omega,by go_num,zq (by rw[yB (HT.o.falls (v+1)) (by omega)];rfl),II w2 _ B2.o.size _,B2.o.alloc B2.o.size _⟩
 obtain⟨k,cur,hvk,hk,rfl,CUR,ho,hb⟩:=hrel;obtain⟨ao,co,rfl,_⟩:=iP ho;have OW:=zq ho;have BW:=zq hb;have ROW:=zq (HR.o.below hb);have ORW:=zq (gU ho);clear ho hb;by_cases hlt:k<N
 ·obtain⟨p,hp⟩:∃ p,ps[k]?=some p:=⟨_,Zg (by have:=LN.o;omega)⟩;obtain⟨b,o,rfl,hbl,hc⟩:=ROW.o.at_ hp;have c0:=hc 0 (.int .i64 p) rfl;rw[Nat.mul_one,Nat.add_zero] at c0;have hlt':(k:Int)<(N:Int):=by omega
  have k0:(0:Int)<=(k:Int):=by omega
  have CN:=zq (oH wr _ cur p ORW.o);rw[Oz] at CN;have ST:=zq (show ints (iR ps v (k+1))=if p∈cur then cur++[(k:Int)] else cur from by
   rw[zU (HT.o.falls (k+1)) (Nat.lt_succ_self k) hvk hp,CUR.o];unfold ints
   split <;> simp)
  have LT:=zq (And.intro hvk hlt);have CL:=zq (show cur.length<=1000 from by
   rw[CUR.o];unfold ints iR;rw[List.length_map];have:=List.length_filter_le (gq ps v) (List.range k);rw[List.length_range] at this;omega)
  clear hp hc hlt hvk hk
  cases hq:decide (p∈cur) with
  | false =>
    have E:=zq (ST.o.trans (if_neg (of_decide_eq_false hq)));rw[hq] at CN;clear hq
    go_wp2_with fail
    refine CN.o.mono ?_;rintro e w' ⟨rfl,rfl⟩
    go_wp2_with fail
    go_roundw
    case rel=>exact⟨k+1,cur,by have:=LT.o.1;omega,by have:=LT.o.2;omega,by go_num,zq E.o.symm,OW.o,BW.o⟩
    case measure=>have:=LT.o.2;simp[intOf];omega
  | true =>
    have E:=zq (ST.o.trans (if_pos (of_decide_eq_true hq)));rw[hq] at CN;clear hq
    go_wp2_with fail
    refine CN.o.mono ?_;rintro e w' ⟨rfl,rfl⟩;obtain⟨v3,w3,R3,O3,M3,N3⟩:=wI _ w.heap.size _ cur (k:Nat) _ rfl OW.o BW.o.size (by have:=CL.o;omega);have R3':=zq R3;have O3':=zq O3;have B3:=zq (show Below w.heap.size w w3 from ((Mod.of_below BW.o).mono (T:=fun k=>w.heap.size<=k) (fun _ _ h=>h.elim)).trans M3 (fun k _ h=>(OW.o.lt k h).1) |>.mono (T:=fun _=>False) (fun k hk h=>by omega) |>.aU);clear R3 O3 M3 N3
    go_wp2_with (at_builtin;refine wpList_append_run rfl (.tmp 27) (.tmp 29) 28 rfl rfl rfl R3'.o ?_)
    go_roundw
    case rel=>exact⟨k+1,cur++[(k:Int)],by have:=LT.o.1;omega,by have:=LT.o.2;omega,by go_num,zq E.o.symm,O3'.o,B3.o⟩
    case measure=>have:=LT.o.2;simp[intOf];omega
 have hlt':¬ (k:Int)<(N:Int):=by omega
 have E:=zq (show cur=ints P from by rw[CUR.o,EP.o,show k=ps.length from by have:=LN.o;omega];rfl);clear hlt hvk hk
 go_wp2_with fail
 go_ret;have O9:wr.ownsRow w.heap.size 3 1 (.slice ao cur.length co) (ints P).length (dR (ints P)):=by rw[<-E.o];exact OW.o
 exact⟨_,rfl,O9,BW.o⟩
theorem I9 (w:World) (vv:Value) (ps:List Int) (v:Nat) (hR:RowOf w 1 dw vv ps) (hT:iD ps) (hv:v<ps.length) :
 Calls Tryz.prog 203 #[vv,.int .i64 (v:Nat)] w (qc w (ints (ig ps v))):=by
 have CK:=zq (xW w vv ps hR);have UP:=zq (fun W (hb:Below w.heap.size w W)=>IL W vv ps (hR.below hb) hT.hi ps.length v (hT.falls _) hv (Nat.le_refl _));obtain⟨a,c,rfl⟩:=hR.form;have HT:=zq hT;obtain⟨N,hN⟩:=Zn ps.length;rw[<-hN] at CK UP ⊢;obtain⟨P,hP⟩:=Zn (ints (ig ps v));rw[<-hP];have EP:=zq hP;have v0:(0:Int)<=(v:Int):=by omega
 have v1:(v:Int)<(N:Int):=by omega
 clear hR hT hN hv hP
 go_enter Tryz.func203,Tryz.ntmps203
 go_wp2_with fail
 refine CK.o.mono ?_;rintro e w2 ⟨p,er,rfl,he,hb⟩;have B2:=zq hb;have h0:er=0:=he.2 HT.o;subst h0;clear hb he CK
 go_wp2_with fail
 refine (UP.o w2 B2.o).mono ?_;rintro e w3 ⟨v3,rfl,ho,hb⟩;have O3:=zq (ownsRow_base ho (base':=w.heap.size) (fun k hk=>Nat.le_trans B2.o.size (ho.lt k hk).1));have B3:=zq (B2.o.trans (hb.mono B2.o.size));clear ho hb
 go_wp2_with fail
 go_ret;exact⟨_,rfl,by rw[EP.o];exact O3.o,B3.o⟩
end Go.Proofs.YtcepekniflaoaaaGreatDoor
namespace Go.Bw
open Go.RowKit
section
variable {α:Type} {n:Nat} {f:α->List Value}
theorem xh (hf:∀ x,(f x).length=n):∀ {l:List α} {i j:Nat} {x:α},l[i]?=some x->j<n->(l.flatMap f)[i*n+j]?=(f x)[j]?
 | [],i,j,x,h,_=>by simp at h
 | y::t,0,j,x,h,hj=>by
   cases h;rw[List.flatMap_cons,Nat.zero_mul,Nat.zero_add,List.getElem?_append_left (by rw[hf];exact hj)]
 | y::t,i+1,j,x,h,hj=>by
   rw[List.flatMap_cons,List.getElem?_append_right (by rw[hf,Nat.add_mul];omega),hf,show (i+1)*n+j - n=i*n+j by rw[Nat.add_mul];omega];exact xh hf (by simpa using h) hj
theorem vw (hf:∀ x,(f x).length=n):∀ {l:List α} {i j:Nat} {x x':α} {u:Value},l[i]?=some x->j<n->f x'=(f x).set j u->(l.flatMap f).set (i*n+j) u=(l.set i x').flatMap f
 | [],i,j,x,x',u,h,_,_=>by simp at h
 | y::t,0,j,x,x',u,h,hj,he=>by
   cases h;rw[List.flatMap_cons,List.set_cons_zero,List.flatMap_cons,Nat.zero_mul,Nat.zero_add,List.set_append_left _ _ (by rw[hf];exact hj),he]
 | y::t,i+1,j,x,x',u,h,hj,he=>by
   rw[List.flatMap_cons,List.set_cons_succ,List.flatMap_cons,List.set_append_right _ _ (by rw[hf,Nat.add_mul];omega),hf,show (i+1)*n+j - n=i*n+j by rw[Nat.add_mul];omega];rw[vw hf (by simpa using h) hj he]
end
section
variable {α:Type} {w w':World} {B n:Nat} {e:TypeId} {f:α->List Value} {v:Value} {l:List α}
def aV (w:World) (B:Nat) (e:TypeId) (n:Nat) (f:α->List Value) (v:Value) (l:List α):Prop:=w.ownsRow B e n v l.length (l.flatMap f)
theorem aV.nil (w:World) (B:Nat) (e:TypeId) (n:Nat) (f:α->List Value):aV w B e n f (.slice none 0 0) []:=World.ownsRow_nil _ _ _ _
theorem aV.form (h:aV w B e n f v l):∃ a c,v=.slice a l.length c/\l.length<=c:=iP h
theorem aV.mod {S:Nat->Prop} (h:aV w B e n f v l) (hm:Mod S w w') (hS:∀ k,v.ownBlock=some k->¬ S k):aV w' B e n f v l :=
 jX h (fun k hk=>hm.block k (World.ownsRow.lt h k hk).2 (hS k hk))
theorem aV.base {B':Nat} (h:aV w B e n f v l) (hB:B'<=B):aV w B' e n f v l:=ownsRow_base h (fun k hk=>Nat.le_trans hB (World.ownsRow.lt h k hk).1)
theorem aV.lt (h:aV w B e n f v l):∀ k,v.ownBlock=some k->B<=k/\k<w.heap.size:=World.ownsRow.lt h
theorem aV.row (h:aV w B e n f v l) (hf:∀ x,(f x).length=n) (hn:0<n):RowOf w n f v l:=by
 have hR:=ru h;unfold aV at h;rcases h.2 with ⟨rfl,hl⟩|⟨g,cap,cur,rfl,hB,hg,hc,hm,hs,ht⟩
 ·obtain rfl:l=[]:=List.eq_nil_of_length_eq_zero hl;exact⟨none,0,rfl,Nat.le_refl _,Nat.zero_le _,fun _=>rfl,fun i x hi=>by simp at hi⟩
 refine⟨_,cap,rfl,hc,hm,(fun h=>by cases h),fun i x hi=>⟨g,0,rfl,lt_of_heap hg,fun j u hj=>?_⟩⟩;have hjn:j<n:=by have:=(List.getElem?_eq_some_iff.1 hj).1;rwa [hf] at this
 rcases hR.2 with ⟨c',e',_⟩|⟨a',c',e',hh⟩
 ·cases e'
 cases e'
 have:=hh (i*n+j) u (by rw[xh hf hi hjn];exact hj);rw[add_plain] at this;rw[show 0+i*n+j=0+(i*n+j) by omega];exact this
theorem aV.block (h:aV w B e n f v l) {k:Nat} {x:α} (hk:l[k]?=some x):∃ g c,v=.slice (some ⟨g,0,none⟩) l.length c/\l.length<=c/\B<=g/\g<w.heap.size/\∀ j,w.frozen? ⟨g,j,none⟩=false:=by
 have hl:=(List.getElem?_eq_some_iff.1 hk).1;unfold aV at h;rcases h.2 with ⟨rfl,hz⟩|⟨g,cap,cur,rfl,hB,hg,hc,hm,hs,ht⟩
 ·omega
 exact⟨g,cap,rfl,hc,hB,lt_of_heap hg,fun j=>aP hg j⟩
theorem aV.set {g c:Nat} (h:aV w B e n f (.slice (some ⟨g,0,none⟩) l.length c) l) (hf:∀ x,(f x).length=n) {k j:Nat} {x x':α} {u:Value} (hk:l[k]?=some x) (hj:j<n) (he:f x'=(f x).set j u) :
 aV (w.setCell ⟨g,k*n+j,none⟩ u) B e n f (.slice (some ⟨g,0,none⟩) l.length c) (l.set k x')/\Mod (fun b=>b=g) w (w.setCell ⟨g,k*n+j,none⟩ u):=by
 have hs:=(World.ownsRow.stored h (k*n+j) u).1;rw[vw hf hk hj he] at hs;refine⟨?_,(Mod.refl _ w).setCell u (fun _=>rfl)⟩;unfold aV;rw[List.length_set];exact hs
end
theorem iM (x:Int):(dw x).length=1:=rfl
theorem oI (x:gu):(gu.cells x).length=2:=rfl
theorem iJ (x:dX):(dX.cells x).length=4:=rfl
theorem dU (x:Ins):(Ins.cells x).length=7:=rfl
theorem eG (x:Acc×Value):(Acc.cells x).length=4:=rfl
theorem fH (x:Pos):(Pos.cells x).length=3:=rfl
theorem lG (x:Ord):(Ord.cells x).length=5:=rfl
def gW (x y:Value):Prop:=∀ b,x.ownBlock=some b->y.ownBlock=some b->False
theorem gW.symm {x y:Value} (h:gW x y):gW y x:=fun b hy hx=>h b hx hy
def aB.rows (V:aB):List Value:=V.aQ::V.ah::V.af::V.ai::V.au::V.orders::V.aG::V.aJ::V.ac.map (·.2)
structure bF (w:World) (B:Nat) (V:aB) (l:aH):Prop where
 aQ:aV w B 86 2 gu.cells V.aQ l.aQ
 ah:aV w B 48 4 dX.cells V.ah l.ah
 af:aV w B 66 7 Ins.cells V.af l.af
 same:l.ai=V.ac.map (·.1)
 ai:aV w B 52 4 Acc.cells V.ai V.ac
 aT:∀ p∈V.ac,aV w B 3 1 dw p.2 p.1.aT
 au:aV w B 50 3 Pos.cells V.au l.au
 orders:aV w B 74 5 Ord.cells V.orders l.orders
 aG:aV w B 3 1 dw V.aG l.aG
 aJ:aV w B 72 3 Pos.cells V.aJ l.aJ
 sep:V.rows.Pairwise gW
 names:∀ u∈l.ah,u.name.size<=maxLen
 nums:∀ a∈l.ai,∀ x∈a.aT,-9223372036854775808<=x/\x<=9223372036854775807
theorem bF.led {w:World} {B:Nat} {V:aB} {l:aH} (h:bF w B V l):bK w V l :=
 ⟨h.aQ.row oI (by decide),h.ah.row iJ (by decide),h.af.row dU (by decide),h.same,h.ai.row eG (by decide),fun p hp=>(h.aT p hp).row iM (by decide),
  h.au.row fH (by decide),h.orders.row lG (by decide),h.aG.row iM (by decide),h.aJ.row fH (by decide),h.names,h.nums⟩
theorem bF.mod {w w':World} {B:Nat} {V:aB} {l:aH} {S:Nat->Prop} (h:bF w B V l) (hm:Mod S w w') (hS:∀ k,B<=k->k<w.heap.size->¬ S k):bF w' B V l :=
 ⟨h.aQ.mod hm (fun k hk=>hS k (h.aQ.lt k hk).1 (h.aQ.lt k hk).2),h.ah.mod hm (fun k hk=>hS k (h.ah.lt k hk).1 (h.ah.lt k hk).2),h.af.mod hm (fun k hk=>hS k (h.af.lt k hk).1 (h.af.lt k hk).2),h.same,
  h.ai.mod hm (fun k hk=>hS k (h.ai.lt k hk).1 (h.ai.lt k hk).2),fun p hp=>(h.aT p hp).mod hm (fun k hk=>hS k ((h.aT p hp).lt k hk).1 ((h.aT p hp).lt k hk).2),
  h.au.mod hm (fun k hk=>hS k (h.au.lt k hk).1 (h.au.lt k hk).2),h.orders.mod hm (fun k hk=>hS k (h.orders.lt k hk).1 (h.orders.lt k hk).2),h.aG.mod hm (fun k hk=>hS k (h.aG.lt k hk).1 (h.aG.lt k hk).2),h.aJ.mod hm (fun k hk=>hS k (h.aJ.lt k hk).1 (h.aJ.lt k hk).2),h.sep,h.names,h.nums⟩
theorem bF.below {w w':World} {B:Nat} {V:aB} {l:aH} (h:bF w B V l) (hb:Below w.heap.size w w'):bF w' B V l:=h.mod (Mod.of_below hb) (fun _ _ _ h=>h)
theorem bF.base {w:World} {B B':Nat} {V:aB} {l:aH} (h:bF w B V l) (hB:B'<=B):bF w B' V l :=
 ⟨h.aQ.base hB,h.ah.base hB,h.af.base hB,h.same,h.ai.base hB,fun p hp=>(h.aT p hp).base hB,h.au.base hB,h.orders.base hB,h.aG.base hB,h.aJ.base hB,h.sep,h.names,h.nums⟩
structure bF.Rq (V:aB):Prop where
 aQ:∀ b,V.ai.ownBlock=some b->V.aQ.ownBlock≠some b
 ah:∀ b,V.ai.ownBlock=some b->V.ah.ownBlock≠some b
 af:∀ b,V.ai.ownBlock=some b->V.af.ownBlock≠some b
 au:∀ b,V.ai.ownBlock=some b->V.au.ownBlock≠some b
 orders:∀ b,V.ai.ownBlock=some b->V.orders.ownBlock≠some b
 aG:∀ b,V.ai.ownBlock=some b->V.aG.ownBlock≠some b
 aJ:∀ b,V.ai.ownBlock=some b->V.aJ.ownBlock≠some b
 aT:∀ b,V.ai.ownBlock=some b->∀ p∈V.ac,p.2.ownBlock≠some b
theorem bF.Rw {w:World} {B:Nat} {V:aB} {l:aH} (h:bF w B V l):bF.Rq V:=by
 have s:=h.sep
 simp only[aB.rows,List.pairwise_cons,List.mem_cons] at s
 obtain⟨s1,s2,s3,s4,s5,s6,s7,s8,_⟩:=s;exact⟨fun b ha hx=>s1 V.ai (by simp) b hx ha,fun b ha hx=>s2 V.ai (by simp) b hx ha,fun b ha hx=>s3 V.ai (by simp) b hx ha,fun b ha hx=>s4 V.au (by simp) b ha hx,
  fun b ha hx=>s4 V.orders (by simp) b ha hx,fun b ha hx=>s4 V.aG (by simp) b ha hx,fun b ha hx=>s4 V.aJ (by simp) b ha hx,fun b ha p hp hx=>s4 p.2 (by simp only[List.mem_map];exact Or.inr (Or.inr (Or.inr (Or.inr ⟨p,hp,rfl⟩)))) b ha hx⟩
theorem jb {α β:Type} (f:α->β) {l:List α} {k:Nat} {x x':α} (hk:l[k]?=some x) (h:f x'=f x):(l.set k x').map f=l.map f:=by
 rw[List.map_set,h]
 apply List.ext_getElem?
 intro i;rw[List.getElem?_set];by_cases e:k=i
 ·subst e;have:=(List.getElem?_eq_some_iff.1 hk).1;simp[this,hk];rw[(List.getElem?_eq_some_iff.1 hk).2]
 simp[e]
theorem bF.ak {w:World} {B:Nat} {V:aB} {l:aH} (h:bF w B V l) {g c k j:Nat} (hv:V.ai=.slice (some ⟨g,0,none⟩) V.ac.length c) {p p':Acc×Value} {u:Value} (hk:V.ac[k]?=some p) (hj:j<4)
 (he:Acc.cells p'=(Acc.cells p).set j u) (h2:p'.2=p.2) (hc:p'.1.aT=p.1.aT) :
 bF (w.setCell ⟨g,k*4+j,none⟩ u) B { V with ac:=V.ac.set k p' } { l with ai:=l.ai.set k p'.1 }/\Mod (fun b=>b=g) w (w.setCell ⟨g,k*4+j,none⟩ u):=by
 have S:=h.Rw;have hg:V.ai.ownBlock=some g:=by rw[hv];rfl
 have hA:=h.ai;rw[hv] at hA;obtain⟨hs,M⟩:=hA.set eG hk hj he;have mm:∀ q∈V.ac.set k p',aV w B 3 1 dw q.2 q.1.aT/\q.2.ownBlock≠some g:=by
  intro q hq;rcases List.mem_or_eq_of_mem_set hq with hq|rfl
  ·exact⟨h.aT q hq,S.aT g hg q hq⟩
  have hp:=List.mem_of_getElem? hk;rw[h2,hc];exact⟨h.aT p hp,S.aT g hg p hp⟩
 refine⟨⟨h.aQ.mod M (fun k hk e=>S.aQ g hg (by rw[<-e];exact hk)),h.ah.mod M (fun k hk e=>S.ah g hg (by rw[<-e];exact hk)),h.af.mod M (fun k hk e=>S.af g hg (by rw[<-e];exact hk)),
  by show l.ai.set k p'.1=(V.ac.set k p').map (·.1);rw[List.map_set,h.same],?_,fun q hq=>(mm q hq).1.mod M (fun k hk e=>(mm q hq).2 (by rw[<-e];exact hk)),h.au.mod M (fun k hk e=>S.au g hg (by rw[<-e];exact hk)),
  h.orders.mod M (fun k hk e=>S.orders g hg (by rw[<-e];exact hk)),h.aG.mod M (fun k hk e=>S.aG g hg (by rw[<-e];exact hk)),h.aJ.mod M (fun k hk e=>S.aJ g hg (by rw[<-e];exact hk)),?_,h.names,?_⟩,M⟩
 ·show aV _ B _ 4 Acc.cells V.ai (V.ac.set k p')
  rw[hv];exact hs
 ·have:({ V with ac:=V.ac.set k p' }:aB).rows=V.rows:=by
   simp only[aB.rows]
   rw[jb (fun q:Acc×Value=>q.2) hk h2]
  rw[this];exact h.sep
 intro a ha x hx;rcases List.mem_or_eq_of_mem_set ha with ha|rfl
 ·exact h.nums a ha x hx
 rw[hc] at hx;exact h.nums p.1 (by rw[h.same];exact List.mem_map.2 ⟨p,List.mem_of_getElem? hk,rfl⟩) x hx
theorem bF.di {w:World} {B:Nat} {V:aB} {l:aH} (h:bF w B V l) {k:Nat} {p:Acc×Value} (hk:V.ac[k]?=some p) {g c:Nat} (hv:p.2=.slice (some ⟨g,0,none⟩) p.1.aT.length c) {n:Nat} {y x:Int} (hn:p.1.aT[n]?=some y)
 (hx:-9223372036854775808<=x/\x<=9223372036854775807) :
 bF (w.setCell ⟨g,n,none⟩ (.int .i64 x)) B { V with ac:=V.ac.set k ({ p.1 with aT:=p.1.aT.set n x },p.2) } { l with ai:=l.ai.set k { p.1 with aT:=p.1.aT.set n x } }/\Mod (fun b=>b=g) w (w.setCell ⟨g,n,none⟩ (.int .i64 x)):=by
 have hg:p.2.ownBlock=some g:=by rw[hv];rfl
 have hp:=List.mem_of_getElem? hk;have s:=h.sep
 simp only[aB.rows,List.pairwise_cons,List.mem_cons] at s
 obtain⟨s1,s2,s3,s4,s5,s6,s7,s8,s9⟩:=s;have hin:p.2∈V.ac.map (·.2):=List.mem_map.2 ⟨p,hp,rfl⟩;have hA:=h.aT p hp;rw[hv] at hA;obtain⟨hs,M⟩:=hA.set (x':=x) (u:=.int .i64 x) (j:=0) iM hn (by decide) rfl
 simp only[Nat.mul_one,Nat.add_zero] at hs M
 have other:∀ (i:Nat) q,i≠k->V.ac[i]?=some q->q.2.ownBlock≠some g:=by
  intro i q hi hq hb;have e1:(V.ac.map (·.2))[i]?=some q.2:=by rw[List.getElem?_map,hq];rfl
  have e2:(V.ac.map (·.2))[k]?=some p.2:=by rw[List.getElem?_map,hk];rfl
  obtain⟨i1,i2⟩:=List.getElem?_eq_some_iff.1 e1;obtain⟨k1,k2⟩:=List.getElem?_eq_some_iff.1 e2;rcases Nat.lt_or_gt_of_ne hi with hlt|hlt
  ·have:=List.pairwise_iff_getElem.1 s9 i k i1 k1 hlt;rw[i2,k2] at this;exact this g hb hg
  have:=List.pairwise_iff_getElem.1 s9 k i k1 i1 hlt;rw[i2,k2] at this;exact this g hg hb
 have e2:(V.ac.set k ({ p.1 with aT:=p.1.aT.set n x },p.2)).map (fun q=>q.2)=V.ac.map (fun q=>q.2):=jb _ hk rfl;refine⟨⟨h.aQ.mod M (fun b hb e=>s1 p.2 (by simp[hin]) b hb (by rw[e];exact hg)),h.ah.mod M (fun b hb e=>s2 p.2 (by simp[hin]) b hb (by rw[e];exact hg)),h.af.mod M (fun b hb e=>s3 p.2 (by simp[hin]) b hb (by rw[e];exact hg)),
  by show l.ai.set k _=(V.ac.set k _).map (·.1);rw[List.map_set,h.same],?_,?_,h.au.mod M (fun b hb e=>s5 p.2 (by simp[hin]) b hb (by rw[e];exact hg)),
  h.orders.mod M (fun b hb e=>s6 p.2 (by simp[hin]) b hb (by rw[e];exact hg)),h.aG.mod M (fun b hb e=>s7 p.2 (by simp[hin]) b hb (by rw[e];exact hg)),h.aJ.mod M (fun b hb e=>s8 p.2 (by simp only[hin]) b hb (by rw[e];exact hg)),?_,h.names,?_⟩,M⟩
 ·have hacc:=h.ai.mod M (fun b hb e=>s4 p.2 (by simp[hin]) b hb (by rw[e];exact hg))
  show aV _ B _ 4 Acc.cells V.ai (V.ac.set k ({ p.1 with aT:=p.1.aT.set n x },p.2))
  have e3:(V.ac.set k ({ p.1 with aT:=p.1.aT.set n x },p.2)).flatMap Acc.cells=V.ac.flatMap Acc.cells:=by
   rw[List.flatMap_def,List.flatMap_def,jb Acc.cells (x':=({ p.1 with aT:=p.1.aT.set n x },p.2)) hk rfl]
  unfold aV at hacc ⊢;rw[e3,List.length_set];exact hacc
 ·intro q hq;obtain⟨i,hi,rfl⟩:=List.mem_iff_getElem.1 hq;rw[List.length_set] at hi;rw[List.getElem_set];by_cases e:k=i
  ·subst e;rw[if_pos rfl]
   show aV _ B _ 1 dw p.2 (p.1.aT.set n x)
   rw[hv];exact hs
  rw[if_neg e];exact (h.aT _ (List.getElem_mem hi)).mod M (fun b hb e'=>other i _ (fun h=>e h.symm) (List.getElem?_eq_getElem hi) (by rw[<-e'];exact hb))
 ·have:({ V with ac:=V.ac.set k ({ p.1 with aT:=p.1.aT.set n x },p.2) }:aB).rows=V.rows:=by
   simp only[aB.rows]
   rw[e2]
  rw[this];exact h.sep
 intro a ha z hz;rcases List.mem_or_eq_of_mem_set ha with ha|rfl
 ·exact h.nums a ha z hz
 rcases List.mem_or_eq_of_mem_set hz with hz|rfl
 ·exact h.nums p.1 (by rw[h.same];exact List.mem_map.2 ⟨p,hp,rfl⟩) z hz
 exact hx
end Go.Bw
