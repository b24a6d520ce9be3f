/- Joined: LexV, RLifJ. -/
import Derived.Test.YtcepekniflaoaaaGreatDoorGa
import Derived.Test.YtcepekniflaoaaaGreatDoorRLifA
import Derived.Test.YtcepekniflaoaaaGreatDoorLifJ
set_option linter.unusedVariables false
set_option linter.unusedSimpArgs false
namespace Go.Bw.kN
open Go.Bw Go.Bw.Keep Go.Bw.Fall
def vP (ops:Array Oper) (pures:List Nat) (j i:Nat):Bool:=pures.contains i&&(i != j&&!waits ops 12 j i)
section
variable {P:Program} {ops:Array Oper} {Q:Exit->Act->World->Prop} {effs pures:List Nat} {C:Nat->World->Prop} {R:List PanicEntry->List Deferred->World->Prop}
def bD (P:Program) (ops:Array Oper) (R:List PanicEntry->List Deferred->World->Prop) (Q:Exit->Act->World->Prop) (C:Nat->World->Prop) (effs pures:List Nat) (i:Nat) (K:Act->World->Prop) (a:Act) (w:World):Prop :=
 match ops[i]? with
 | none=>K a w
 | some o =>
   if effs.contains i then wpOp P ops (Fall R Q) i (fun a w=>(∀ k,vP ops pures i k=true->C k w)/\K a w) a w
   else if pures.contains i then ∃ v,YieldsIf P ops (C i) o v a/\K (a.put o.dst v) w
   else ∃ v,YieldsIn P ops (fun w'=>w'=w) o v a/\K (a.put o.dst v) w
theorem jU {i:Nat} {K K':Act->World->Prop} (h:∀ a w,K a w->K' a w) {a:Act} {w:World} (hh:bD P ops R Q C effs pures i K a w):bD P ops R Q C effs pures i K' a w:=by
 unfold bD at *
 split
 ·rename_i ho;simp only[ho] at hh;exact h _ _ hh
 rename_i o ho
 simp only[ho] at hh
 split
 ·rename_i he;rw[if_pos he] at hh;exact wpOp_mono (fun a w hx=>⟨hx.1,h _ _ hx.2⟩) hh
 rename_i he;rw[if_neg he] at hh
 split
 ·rename_i hp;rw[if_pos hp] at hh;obtain⟨v,h1,h2⟩:=hh;exact⟨v,h1,h _ _ h2⟩
 rename_i hp;rw[if_neg hp] at hh;obtain⟨v,h1,h2⟩:=hh;exact⟨v,h1,h _ _ h2⟩
theorem jV {i:Nat} {K:Act->World->Prop} {a:Act} {w:World} (hw:pures.contains i=true->C i w) (hh:bD P ops R Q C effs pures i K a w):wpOp P ops (Fall R Q) i (fun a' w'=>((∀ k,vP ops pures i k=true->C k w')\/w'=w)/\K a' w') a w:=by
 unfold bD at hh
 split at hh
 ·rename_i ho;unfold wpOp;simp only[ho];exact⟨Or.inr trivial,hh⟩
 rename_i o ho
 split at hh
 ·exact wpOp_mono (fun a w hx=>⟨Or.inl hx.1,hx.2⟩) hh
 split at hh
 ·rename_i hp;obtain⟨v,h1,h2⟩:=hh;exact h1.wpOp (S:=C i) ho (hw hp) ⟨Or.inr rfl,h2⟩
 obtain⟨v,h1,h2⟩:=hh;exact wpOp_of_qOp (C:=fun w'=>w'=w) (K:=fun a'=>a'=a.put o.dst v) rfl (fun a' w' e h=>by subst e;subst h;exact⟨Or.inr rfl,h2⟩) (h1.qOp ho rfl)
theorem qp {i j:Nat} {oi oj:Oper} (hi:ops[i]?=some oi) (hj:ops[j]?=some oj) (hpi:iH oi.op=true) (hpj:iH oj.op=true) (hc:rq ops effs pures i j=true) (hei:pures.contains i=true->effs.contains i=false) (hej:pures.contains j=true->effs.contains j=false)
 {K:Act->World->Prop} {a:Act} {w:World} (h:bD P ops R Q C effs pures i (bD P ops R Q C effs pures j K) a w):bD P ops R Q C effs pures j (bD P ops R Q C effs pures i K) a w:=by
 unfold rq at hc
 simp only[hi,hj,Bool.and_eq_true,Bool.or_eq_true,Bool.not_eq_true'] at hc
 obtain⟨⟨⟨apij,apji⟩,ei'⟩,hk⟩:=hc;obtain⟨h1,h2,h3⟩:=Oper.apart_spec apij;have hsi:=jd hpi;have hsj:=jd hpj;unfold bD at h ⊢
 simp only[hi,hj] at h ⊢
 by_cases ej:effs.contains j=true
 ·-- j may do anything: i is pure
  have pj:pures.contains j=false:=by cases hp:pures.contains j;rfl;rw[hej hp] at ej;cases ej
  have pi:pures.contains i=true:=by
   rcases hk with hk|hk
   ·exact hk
   rw[hk] at ej;cases ej
  simp only[ej,ei',pi,if_true,Bool.false_eq_true,if_false] at h ⊢
  obtain⟨v,hv,hh⟩:=h;have:=wpOp_putIf (S:=C i) hj apij hsi hsj (fun _ _ _ hq=>hq.Ol) hv hh;exact wpOp_mono (fun a' w' hx=>⟨hx.2.1,v,hx.1,hx.2.2⟩) this
 have ej':effs.contains j=false:=by simpa using ej
 skip
 simp only[ei',ej',Bool.false_eq_true,if_false] at h ⊢
 -- neither does anything to the world
 have key:∀ (Yi Yj:Value->Act->Prop),(∀ v (x:Act) d u,Yi v x->(∀ t,d=some t->t∉oi.looksAt ops)->Yi v (x.put d u))->(∀ v (x:Act) d u,Yj v (x.put d u)->(∀ t,d=some t->t∉oj.looksAt ops)->Yj v x) ->
  (∃ v,Yi v a/\∃ u,Yj u (a.put oi.dst v)/\K ((a.put oi.dst v).put oj.dst u) w)->∃ u,Yj u a/\∃ v,Yi v (a.put oj.dst u)/\K ((a.put oj.dst u).put oi.dst v) w:=by
  rintro Yi Yj ki kj ⟨v,hv,u,hu,hK⟩;exact⟨u,kj u a oi.dst v hu h1,v,ki v a oj.dst u hv h3,by rw[<-Act.put_comm a v u h2];exact hK⟩
 have pif:∀ (k:Nat) (o:Oper) (hs:∀ cs b,o.op≠.select cs b) v (x:Act) d u,YieldsIf P ops (C k) o v x->(∀ t,d=some t->t∉o.looksAt ops)->YieldsIf P ops (C k) o v (x.put d u) :=
  fun k o hs v x d u hy hd=>hy.of_same (execOp_put o hs x d u hd) (wanted_put o x d u hd)
 have pif':∀ (k:Nat) (o:Oper) (hs:∀ cs b,o.op≠.select cs b) v (x:Act) d u,YieldsIf P ops (C k) o v (x.put d u)->(∀ t,d=some t->t∉o.looksAt ops)->YieldsIf P ops (C k) o v x :=
  fun k o hs v x d u hy hd=>hy.of_same (execOp_put o hs x d u hd).symm (wanted_put o x d u hd).symm
 have pin:∀ (o:Oper) (hs:∀ cs b,o.op≠.select cs b) v (x:Act) d u,YieldsIn P ops (fun w'=>w'=w) o v x->(∀ t,d=some t->t∉o.looksAt ops)->YieldsIn P ops (fun w'=>w'=w) o v (x.put d u) :=
  fun o hs v x d u hy hd=>hy.of_same (execOp_put o hs x d u hd) (wanted_put o x d u hd)
 have pin':∀ (o:Oper) (hs:∀ cs b,o.op≠.select cs b) v (x:Act) d u,YieldsIn P ops (fun w'=>w'=w) o v (x.put d u)->(∀ t,d=some t->t∉o.looksAt ops)->YieldsIn P ops (fun w'=>w'=w) o v x :=
  fun o hs v x d u hy hd=>hy.of_same (execOp_put o hs x d u hd).symm (wanted_put o x d u hd).symm
 by_cases pi:pures.contains i=true <;> by_cases pj:pures.contains j=true
 ·simp only[pi,pj,if_true] at h ⊢
  exact key _ _ (pif i oi hsi) (pif' j oj hsj) h
 ·have pj':pures.contains j=false:=by simpa using pj
  simp only[pi,pj',if_true,Bool.false_eq_true,if_false] at h ⊢
  exact key _ _ (pif i oi hsi) (pin' oj hsj) h
 ·have pi':pures.contains i=false:=by simpa using pi
  simp only[pi',pj,if_true,Bool.false_eq_true,if_false] at h ⊢
  exact key _ _ (pin oi hsi) (pif' j oj hsj) h
 have pi':pures.contains i=false:=by simpa using pi
 have pj':pures.contains j=false:=by simpa using pj
 simp only[pi',pj',Bool.false_eq_true,if_false] at h ⊢
 exact key _ _ (pin oi hsi) (pin' oj hsj) h
def bf (P:Program) (ops:Array Oper) (R:List PanicEntry->List Deferred->World->Prop) (Q:Exit->Act->World->Prop) (C:Nat->World->Prop) (effs pures:List Nat):Plan->Act->World->Prop
 | .leaf,a,w=>Q .normal a w
 | .step i t,a,w=>bD P ops R Q C effs pures i (bf P ops R Q C effs pures t) a w
 | .fork i s k t,a,w=>bD P ops R Q C effs pures i (bf P ops R Q C effs pures s) a w/\bD P ops R Q C effs pures k (bf P ops R Q C effs pures t) a w
theorem pull {j:Nat} (hp:∀ (j:Nat) o,ops[j]?=some o->iH o.op=true) (hpe:∀ (j:Nat) o,ops[j]?=some o->pures.contains j=true->effs.contains j=false) :
 ∀ t:Plan,xR ops effs pures t=true->(∀ i∈t.idx,i<ops.size)->j∈t.idx->(∀ i∈t.idx,i≠j->waits ops 12 j i=false) ->
 ∃ t':Plan,xR ops effs pures t'=true/\(∀ i,i∈t'.idx↔i∈t.idx/\i≠j)/\t'.idx.length+1=t.idx.length /\
  ∀ a w,bf P ops R Q C effs pures t a w->bD P ops R Q C effs pures j (bf P ops R Q C effs pures t') a w:=by
 intro t
 induction t with
 | leaf=>intro _ _ hj;cases hj
 | step i t ih =>
   intro hok hlt hj hw
   simp only[xR,Bool.and_eq_true,Bool.not_eq_true',List.all_eq_true] at hok
   obtain⟨⟨h1,h2⟩,h3⟩:=hok;have h2':i∉t.idx:=fun hm=>by rw[List.contains_iff_mem.2 hm] at h2;cases h2
   by_cases e:j=i
   ·subst e;refine⟨t,h1,fun i=>?_,rfl,fun a w h=>h⟩
    simp only[Plan.idx,List.mem_cons]
    constructor
    ·intro hi;exact⟨Or.inr hi,fun e=>h2' (e▸hi)⟩
    rintro⟨hi|hi,hne⟩
    ·exact absurd hi hne
    exact hi
   have hj':j∈t.idx:=by
    rcases List.mem_cons.1 hj with h|h
    ·exact absurd h e
    exact h
   obtain⟨t',o1,o2,o3,o4⟩:=ih h1 (fun i hi=>hlt i (List.mem_cons_of_mem _ hi)) hj' (fun i hi=>hw i (List.mem_cons_of_mem _ hi));have hcm:rq ops effs pures i j=true:=by
    have:=h3 j hj';rw[Bool.or_eq_true] at this;rcases this with h|h
    ·exact h
    rw[hw i (by simp[Plan.idx]) (fun e2=>e e2.symm)] at h;cases h
   have hil:=hlt i (by simp[Plan.idx]);have hjl:=hlt j hj;obtain⟨oi,hoi⟩:∃ o,ops[i]?=some o:=⟨_,Array.getElem?_eq_getElem hil⟩;obtain⟨oj,hoj⟩:∃ o,ops[j]?=some o:=⟨_,Array.getElem?_eq_getElem hjl⟩;refine⟨.step i t',?_,fun x=>?_,by simp[Plan.idx];omega,fun a w h=>?_⟩
   ·simp only[xR,Bool.and_eq_true,Bool.not_eq_true',List.all_eq_true]
    refine⟨⟨o1,?_⟩,fun x hx=>h3 x ((o2 x).1 hx).1⟩
    cases hc:t'.idx.contains i with
    | false=>rfl
    | true=>exact absurd ((o2 i).1 (List.contains_iff_mem.1 hc)).1 h2'
   ·simp only[Plan.idx,List.mem_cons,o2]
    constructor
    ·rintro (h|⟨h,h'⟩)
     ·exact⟨Or.inl h,fun e2=>e (e2.symm.trans h)⟩
     exact⟨Or.inr h,h'⟩
    rintro⟨h|h,h'⟩
    ·exact Or.inl h
    exact Or.inr ⟨h,h'⟩
   have h0:bD P ops R Q C effs pures i (bD P ops R Q C effs pures j (bf P ops R Q C effs pures t')) a w:=jU o4 h;exact qp hoi hoj (hp i oi hoi) (hp j oj hoj) hcm (hpe i oi hoi) (hpe j oj hoj) h0
 | fork i s k t ihs iht =>
   intro hok hlt hj hw
   simp only[xR,Bool.and_eq_true,Bool.not_eq_true',List.all_eq_true,beq_iff_eq] at hok
   obtain⟨⟨⟨⟨⟨⟨⟨h1,h2⟩,h3⟩,h4⟩,h5⟩,h6⟩,h7⟩,h8⟩:=hok;have h3':i∉s.idx:=fun hm=>by rw[List.contains_iff_mem.2 hm] at h3;cases h3
   have h4':k∉t.idx:=fun hm=>by rw[List.contains_iff_mem.2 hm] at h4;cases h4
   have sub1:∀ x,x∈i::s.idx->x∈k::t.idx:=fun x hx=>List.contains_iff_mem.1 (h6 x hx)
   have sub2:∀ x,x∈k::t.idx->x∈i::s.idx:=fun x hx=>List.contains_iff_mem.1 (h7 x hx)
   have shape:∀ (j:Nat) (l:List Nat),j∉l->∀ x,x∈l↔x∈j::l/\x≠j:=fun j l hn x=>by
    simp only[List.mem_cons]
    constructor
    ·intro hi;exact⟨Or.inr hi,fun e=>hn (e▸hi)⟩
    rintro⟨hi|hi,hne⟩
    ·exact absurd hi hne
    exact hi
   by_cases e:j=i
   ·subst e;exact⟨s,h1,shape j s.idx h3',rfl,fun a w h=>h.1⟩
   by_cases e2:j=k
   ·subst e2;refine⟨t,h2,fun x=>(shape j t.idx h4' x).trans ⟨fun h=>⟨sub2 x h.1,h.2⟩,fun h=>⟨sub1 x h.1,h.2⟩⟩,by simp[Plan.idx];omega,fun a w h=>h.2⟩
   exfalso
   have hj':j∈s.idx:=by
    rcases List.mem_cons.1 hj with h|h
    ·exact absurd h e
    exact h
   have:=h8 j hj';rw[Bool.or_eq_true,Bool.or_eq_true,beq_iff_eq] at this;rcases this with (h|h)|h
   ·exact e2 h
   ·rw[hw i (by simp[Plan.idx]) (fun e3=>e e3.symm)] at h;cases h
   rw[hw k (sub2 k (by simp)) (fun e3=>e2 e3.symm)] at h;cases h
theorem jo (hp:∀ (j:Nat) o,ops[j]?=some o->iH o.op=true) (hback:∀ (j:Nat) o,ops[j]?=some o->∀ e∈o.after,Region.binds .any e=true->e.on<j)
 (hpe:∀ (j:Nat) o,ops[j]?=some o->pures.contains j=true->effs.contains j=false):∀ (fuel:Nat) (t:Plan) (listed:Array Bool) (a:Act) (w:World),listed.size=ops.size->xR ops effs pures t=true->t.idx.length=fuel ->
 (∀ i,i∈t.idx↔i<ops.size/\listed.getD i true=false)->Closed ops listed ->
 (∀ i,i∈t.idx->pures.contains i=true->C i w)->bf P ops R Q C effs pures t a w->wpAny P .any ops (Fall R Q) fuel listed a w:=by
 intro fuel
 induction fuel with
 | zero =>
   intro t listed a w hsz hok hf hmem hc hcw h;have ht:t=.leaf:=by
    cases t with
    | leaf=>rfl
    | step i t=>simp[Plan.idx] at hf
    | fork i s k t=>simp[Plan.idx] at hf
   subst ht;refine⟨?_,h⟩
   cases hr:Region.ready .any ops listed with
   | nil=>rfl
   | cons i l =>
     obtain⟨h1,o,ho,_⟩:=mem_ready.1 (by rw[hr];simp:i∈Region.ready .any ops listed);have:=(hmem i).2 ⟨(Array.getElem?_eq_some_iff.1 ho).1,h1⟩
     cases this
 | succ fuel ih =>
   intro t listed a w hsz hok hf hmem hc hcw h
   -- something is left,so something may come up: the first of what is left
   have first:Region.ready .any ops listed≠[]:=by
    intro hr;have hne:rest ops.size listed≠[]:=by
     intro he;obtain⟨i,hi⟩:∃ i,i∈t.idx:=by
      cases hx:t.idx with
      | nil=>rw[hx] at hf;cases hf
      | cons i l=>exact⟨i,by simp⟩
     have h2:=(hmem i).1 hi;have:i∈rest ops.size listed:=by simp[rest];exact⟨h2.1,by simpa using h2.2⟩
     rw[he] at this;cases this
    have mem_rest:∀ i,i∈rest ops.size listed↔i<ops.size/\listed.getD i true=false:=by
     intro i;simp[rest]
    cases hl:rest ops.size listed with
    | nil=>exact hne hl
    | cons i l =>
      have hi:=(mem_rest i).1 (by rw[hl];simp);have hsorted:(rest ops.size listed).Pairwise (·<·):=List.Pairwise.filter _ List.pairwise_lt_range;rw[hl] at hsorted;have hmin:∀ k,k<i->listed.getD k false=true:=by
       intro k hk;have hks:k<ops.size:=Nat.lt_trans hk hi.1;by_cases hx:listed.getD k true=false
       ·have:k∈rest ops.size listed:=(mem_rest k).2 ⟨hks,hx⟩;rw[hl] at this;rcases List.mem_cons.1 this with e|e
        ·omega
        have:=(List.pairwise_cons.1 hsorted).1 k e;omega
       have hks':k<listed.size:=by omega
       simp[hks'] at hx ⊢;exact hx
      have:i∈Region.ready .any ops listed:=by
       obtain⟨o,ho⟩:∃ o,ops[i]?=some o:=⟨_,Array.getElem?_eq_getElem hi.1⟩;exact mem_ready.2 ⟨hi.2,o,ho,fun e he hb=>hmin e.on (hback i o ho e he hb)⟩
      rw[hr] at this;cases this
   refine⟨fun h0=>absurd h0 first,fun j hj=>?_⟩;obtain⟨hjun,oj,hoj,hall⟩:=mem_ready.1 hj;have hjs:j<ops.size:=(Array.getElem?_eq_some_iff.1 hoj).1;have hjm:j∈t.idx:=(hmem j).2 ⟨hjs,hjun⟩;have nowait:∀ i∈t.idx,i≠j->waits ops 12 j i=false:=(fun i hi hne=>by
    cases hwt:waits ops 12 j i with
    | false=>rfl
    | true =>
      exfalso
      have:=lJ hc 12 j i hwt (fun o ho e he hb=>by rw[hoj] at ho;cases ho;exact hall e he hb);have hir:=(hmem i).1 hi;have his:i<listed.size:=by omega
      have h2:=hir.2;simp[his] at this h2;rw[this] at h2;cases h2)
   obtain⟨t',o1,o2,o3,o4⟩:=pull (P:=P) (Q:=Q) (R:=R) (C:=C) hp hpe t hok (fun i hi=>((hmem i).1 hi).1) hjm nowait;have hjl:j<listed.size:=by omega
   have hclosed:Closed ops (listed.setIfInBounds j true):=by
    intro k o ho hk e he hb;by_cases e1:k=j
    ·subst e1;rw[hoj] at ho;cases ho;exact getD_set_true (hall e he hb)
    rw[getD_set_ne false (Ne.symm e1)] at hk;exact getD_set_true (hc k o ho hk e he hb)
   refine wpOp_mono (fun a' w' hx=>?_) (jV (hcw j hjm) (o4 a w h));have hcw':∀ i,i∈t'.idx->pures.contains i=true->C i w':=fun i hi hp=>by
    have hit:=(o2 i).1 hi;rcases hx.1 with hC|rfl
    ·refine hC i ?_;unfold vP;rw[Bool.and_eq_true,Bool.and_eq_true];exact⟨hp,by rw[bne_iff_ne];exact hit.2,by rw[nowait i hit.1 hit.2];rfl⟩
    exact hcw i hit.1 hp
   refine ih t' (listed.setIfInBounds j true) a' w' (by simp[hsz]) o1 (by omega) (fun i=>?_) hclosed hcw' hx.2;rw[o2,hmem];by_cases e:i=j
   ·subst e;simp[hjl]
   rw[getD_set_ne true (Ne.symm e)];simp[e]
theorem aX {id:Nat} {l:List Oper} {a:Act} {w:World} (effs pures:List Nat) (t:Plan) (R:List PanicEntry->List Deferred->World->Prop) (hm:P.follows .mixedOrders=true) (hR:∀ c a w,R c a.defers w->Q (.panic c) a w) (hB:zI l.toArray effs pures t=true) (hC:∀ i,C i w.drew) (h:bf P l.toArray R Q C effs pures t a w.drew):(Code.region id l.toArray true).wp P Q a w:=by
 obtain⟨b1,b2,b3,b4,b5,b6⟩:=rZ hB;have h1:(Code.region id l.toArray true).wp P (Fall R Q) a w:=by
  refine wp_region_any hm (jo (effs:=effs) (pures:=pures) (Q:=Q) (R:=R) b1 b2 b3 l.toArray.size t (Array.replicate l.toArray.size false) a w.drew (by simp) b4 b5 (fun i=>?_) ?_ (fun i _ _=>hC i) h)
  ·rw[b6]
   constructor
   ·intro hi;refine⟨hi,?_⟩;simp at hi;simp[hi]
   intro hi;exact hi.1
  intro k o ho hk;have hks:k<l.toArray.size:=(Array.getElem?_eq_some_iff.1 ho).1
  simp at hks
  simp[hks] at hk
 exact wp_mono h1 (fun e a w hq=>hq.imp hR)
variable {l:List Oper}
theorem bH {a:Act} {w:World} (h:Q .normal a w):bf P l.toArray R Q C effs pures .leaf a w:=h
theorem aC:∀ (is:List Nat) {t:Plan} {a:Act} {w:World},o6 l effs pures is=true ->
 wpQuiet P l.toArray (fun w'=>w'=w) (fun a'=>bf P l.toArray R Q C effs pures t a' w) (ay l is) a->bf P l.toArray R Q C effs pures (.steps is t) a w
 | [],_,_,_,_,h=>h
 | i::is,t,a,w,hn,h=>by
   unfold o6 at hn
   simp only[List.all_cons,Bool.and_eq_true,Bool.not_eq_true'] at hn
   obtain⟨o,ho⟩:=Option.isSome_iff_exists.1 hn.1.2;have h0:l.toArray[i]?=some o:=by rw[nC] at ho;simpa using ho
   unfold ay at h;rw[ho] at h;have hq:qOp P l.toArray (fun w'=>w'=w) i (wpQuiet P l.toArray (fun w'=>w'=w) (fun a'=>bf P l.toArray R Q C effs pures t a' w) (ay l is)) a:=by
    unfold qOp;simp only[h0];exact h
   obtain⟨v,hy,hK⟩:=yieldsIn_of_qOp h0 hq
   show bD P l.toArray R Q C effs pures i (bf P l.toArray R Q C effs pures (.steps is t)) a w
   unfold bD
   simp only[h0,hn.1.1.1,hn.1.1.2,Bool.false_eq_true,if_false]
   exact⟨v,hy,aC is (by unfold o6;exact hn.2) hK⟩
theorem bM (D:World->Prop):∀ (is:List Nat) {t:Plan} {a:Act} {w:World},tX l effs pures is=true->(∀ i,i∈is->∀ w,C i w->D w) ->
 wpQuiet P l.toArray D (fun a'=>bf P l.toArray R Q C effs pures t a' w) (ay l is) a->bf P l.toArray R Q C effs pures (.steps is t) a w
 | [],_,_,_,_,_,h=>h
 | i::is,t,a,w,hn,hD,h=>by
   unfold tX at hn
   simp only[List.all_cons,Bool.and_eq_true,Bool.not_eq_true'] at hn
   have ho:∃ o,nth l i=some o/\Keep.iY o.op=true:=by
    have h2:=hn.1.2
    cases hx:nth l i with
    | none=>rw[hx] at h2;cases h2
    | some o=>rw[hx] at h2;exact⟨o,rfl,h2⟩
   obtain⟨o,ho,hs⟩:=ho;have h0:l.toArray[i]?=some o:=by rw[nC] at ho;simpa using ho
   unfold ay at h;rw[ho] at h;have hq:qOp P l.toArray D i (wpQuiet P l.toArray D (fun a'=>bf P l.toArray R Q C effs pures t a' w) (ay l is)) a:=by
    unfold qOp;simp only[h0];exact h
   obtain⟨v,hy,hK⟩:=yieldsIn_of_qOp h0 hq
   show bD P l.toArray R Q C effs pures i (bf P l.toArray R Q C effs pures (.steps is t)) a w
   unfold bD
   simp only[h0,hn.1.1.1,hn.1.1.2,Bool.false_eq_true,if_false,if_true]
   refine⟨v,?_,bM D is (by unfold tX;exact hn.2) (fun k hk=>hD k (List.mem_cons_of_mem _ hk)) hK⟩;rcases hy with ⟨hw,hv⟩|⟨hw,hv⟩
   ·refine .inl ⟨hw,fun w' hw'=>?_⟩;have h1:=hv w' (hD i (by simp) w' hw');unfold Oper.quietAt at h1
    cases hr:(execOp a.eval o).run P w' with
    | halt x w1=>rw[hr] at h1;exact h1.elim
    | ok n w1 =>
      obtain⟨u,rfl⟩:=Keep.oZ hs w' n w1 hr;rw[hr] at h1;obtain⟨e1,e2⟩:=h1;rw[e1,e2]
   exact .inr ⟨hw,hv⟩
theorem aK {k:Nat} {t:Plan} {a:Act} {w:World} (he:effs.contains k=true) (hg:(nth l k).all (fun o=>o.guard.isNone)=true)
 (h:∀ K:Act->World->Prop,(∀ a w,(∀ i,vP l.toArray pures k i=true->C i w)->bf P l.toArray R Q C effs pures t a w->K a w)->yu P K (Fall R Q) (ay l [k]) a w):bf P l.toArray R Q C effs pures (.step k t) a w:=by
 show bD P l.toArray R Q C effs pures k (bf P l.toArray R Q C effs pures t) a w
 cases hx:nth l k with
 | none =>
   have:=h (fun a w=>(∀ i,vP l.toArray pures k i=true->C i w)/\bf P l.toArray R Q C effs pures t a w) (fun a w hc ht=>⟨hc,ht⟩);unfold ay at this;rw[hx] at this;exact this.elim
 | some o =>
   have h0:l.toArray[k]?=some o:=by rw[nC] at hx;simpa using hx
   unfold bD
   simp only[h0,he,if_true]
   unfold wpOp
   simp only[h0]
   rw[hx] at hg;rw[if_pos (by
    have:o.guard=none:=by simpa using hg
    simp[Region.wanted,this])]
   refine Or.inl ?_;have:=h (fun a w=>(∀ i,vP l.toArray pures k i=true->C i w)/\bf P l.toArray R Q C effs pures t a w) (fun a w hc ht=>⟨hc,ht⟩);unfold ay at this;rw[hx] at this;exact this
theorem zJ {k x:Nat} {t:Plan} {a:Act} {w:World} (he:effs.contains k=true) (hg:(nth l k).all (fun o=>o.guard.isNone)=true) (hn:pures.all (fun i=>!vP l.toArray pures k i||i==x)=true)
 (h:∀ K:Act->World->Prop,(∀ a w,C x w->bf P l.toArray R Q C effs pures t a w->K a w)->yu P K (Fall R Q) (ay l [k]) a w):bf P l.toArray R Q C effs pures (.step k t) a w :=
 aK he hg (fun K hK=>h K (fun a w hc ht=>hK a w (fun i hi=>by
  have hm:i∈pures:=by
   unfold vP at hi;rw[Bool.and_eq_true] at hi;exact List.contains_iff_mem.1 hi.1
  have:=List.all_eq_true.1 hn i hm;rw[hi] at this;have e:i=x:=by simpa using this
  rw[e];exact hc) ht))
end
end Go.Bw.kN
namespace Go.Proofs.YtcepekniflaoaaaGreatDoor
open Go.RowKit Go.Bw Go.Maps Go.Shelf Go.Bw.Fall
structure zN (w:World) (R1 b9:Nat) (bs:List (Nat×TypeId×Array Value)) (L0:aH) (ps:List Pos) (f:Pos->Option (Int×Int)) (c:Pos->Int) (frm:Int) (k:Nat) (V':aB) (M:aH) (W':World):Prop where
 jl:dB w R1 ((b9, 31,V'.cells M)::bs) V' M W'
 go:dD f c frm (ps.drop k) M=dD f c frm ps L0
 dI:dW L0 M
theorem zN.less {w:World} {R1 b9:Nat} {x:Nat×TypeId×Array Value} {bs:List (Nat×TypeId×Array Value)} {L0:aH} {ps:List Pos} {f:Pos->Option (Int×Int)} {c:Pos->Int} {frm:Int} {k:Nat} {V':aB} {M:aH} {W':World} (h:zN w R1 b9 (x::bs) L0 ps f c frm k V' M W'):zN w R1 b9 bs L0 ps f c frm k V' M W':=⟨h.jl.drop1,h.go,h.dI⟩
theorem zN.skip {w:World} {R1 b9:Nat} {bs:List (Nat×TypeId×Array Value)} {L0:aH} {ps:List Pos} {f:Pos->Option (Int×Int)} {c:Pos->Int} {frm:Int} {k:Nat} {V':aB} {M:aH} {W':World} (h:zN w R1 b9 bs L0 ps f c frm k V' M W') {p:Pos} (hp:ps[k]?=some p) (hf:f p=none):zN w R1 b9 bs L0 ps f c frm (k+1) V' M W':=⟨h.jl,by rw[<-h.go,drop_at hp,oQ hf],h.dI⟩
theorem zN.next {w:World} {R1 b9:Nat} {bs cs:List (Nat×TypeId×Array Value)} {L0:aH} {ps:List Pos} {f:Pos->Option (Int×Int)} {c:Pos->Int} {frm:Int} {k:Nat} {V' U:aB} {M:aH} {W' W2:World} (h:zN w R1 b9 bs L0 ps f c frm k V' M W') {p:Pos} {x:Int×Int} (hp:ps[k]?=some p) (hf:f p=some x) (hx:x.2=0) (hr:(fP M (c p) x.1 frm p.ak).2=0)
 (hfr:0<=frm/\frm<L0.ai.length) (ha:0<=p.ak/\p.ak<L0.ai.length) (F:dB w R1 ((b9, 31,U.cells (fP M (c p) x.1 frm p.ak).1)::cs) U (fP M (c p) x.1 frm p.ak).1 W2):zN w R1 b9 cs L0 ps f c frm (k+1) U (fP M (c p) x.1 frm p.ak).1 W2 :=
 ⟨F,by rw[<-h.go,drop_at hp,oP hf hx hr],h.dI.trans (kW ⟨hfr.1,by rw[h.dI.len];exact hfr.2⟩ ⟨ha.1,by rw[h.dI.len];exact ha.2⟩ hr)⟩
end Go.Proofs.YtcepekniflaoaaaGreatDoor
