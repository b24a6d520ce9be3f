/- Joined: LexV, RLifJ. -/
import Derived.Test.YtcepekniflaoaaaGreatDoorGa
import Derived.Test.YtcepekniflaoaaaGreatDoorRLifA
import Derived.Test.YtcepekniflaoaaaGreatDoorLifJ
set_option linter.unusedVariables false
set_option linter.unusedSimpArgs false
set_option maxRecDepth 100000
set_option maxHeartbeats 8000000
namespace Go.Bw.kM
open Go.Bw Go.Bw.Keep Go.Bw.Fall
def vw (ops:Array Oper) (pures:List Nat) (j i:Nat):Bool:=pures.contains i&&(i != j&&!waits ops 12 j i)
section
variable {P:Program} {ops:Array Oper} {Q:Exit->Act->World->Prop} {effs pures:List Nat} {C:Nat->World->Prop} {R:List PanicEntry->List Deferred->World->Prop}
def bg (P:Program) (ops:Array Oper) (R:List PanicEntry->List Deferred->World->Prop) (Q:Exit->Act->World->Prop) (C:Nat->World->Prop) (effs pures:List Nat) (i:Nat) (K:Act->World->Prop) (a:Act) (w:World):Prop :=
 match ops[i]? with
 | none=>K a w
 | some o =>
   if effs.contains i then wpOp P ops (Fall R Q) i (fun a w=>(∀ k,vw ops pures i k=true->C k w)/\K a w) a w
   else if pures.contains i then ∃ v,YieldsIf P ops (C i) o v a/\K (a.put o.dst v) w
   else ∃ v,YieldsIn P ops (fun w'=>w'=w) o v a/\K (a.put o.dst v) w
theorem jR {i:Nat} {K K':Act->World->Prop} (h:∀ a w,K a w->K' a w) {a:Act} {w:World} (hh:bg P ops R Q C effs pures i K a w):bg P ops R Q C effs pures i K' a w:=by
 unfold bg at *
 split
 ·rename_i ho;simp only[ho] at hh;exact h _ _ hh
 rename_i o ho
 simp only[ho] at hh
 split
 ·rename_i he;rw[if_pos he] at hh;exact wpOp_mono (fun a w hx=>⟨hx.1,h _ _ hx.2⟩) hh
 rename_i he;rw[if_neg he] at hh
 split
 ·rename_i hp;rw[if_pos hp] at hh;obtain⟨v,h1,h2⟩:=hh;exact⟨v,h1,h _ _ h2⟩
 rename_i hp;rw[if_neg hp] at hh;obtain⟨v,h1,h2⟩:=hh;exact⟨v,h1,h _ _ h2⟩
theorem jS {i:Nat} {K:Act->World->Prop} {a:Act} {w:World} (hw:pures.contains i=true->C i w) (hh:bg P ops R Q C effs pures i K a w):wpOp P ops (Fall R Q) i (fun a' w'=>((∀ k,vw ops pures i k=true->C k w')\/w'=w)/\K a' w') a w:=by
 unfold bg at hh
 split at hh
 ·rename_i ho;unfold wpOp;simp only[ho];exact⟨Or.inr trivial,hh⟩
 rename_i o ho
 split at hh
 ·exact wpOp_mono (fun a w hx=>⟨Or.inl hx.1,hx.2⟩) hh
 split at hh
 ·rename_i hp;obtain⟨v,h1,h2⟩:=hh;exact h1.wpOp (S:=C i) ho (hw hp) ⟨Or.inr rfl,h2⟩
 obtain⟨v,h1,h2⟩:=hh;exact wpOp_of_qOp (C:=fun w'=>w'=w) (K:=fun a'=>a'=a.put o.dst v) rfl (fun a' w' e h=>by subst e;subst h;exact⟨Or.inr rfl,h2⟩) (h1.qOp ho rfl)
theorem pR {i j:Nat} {oi oj:Oper} (hi:ops[i]?=some oi) (hj:ops[j]?=some oj) (hpi:iF oi.op=true) (hpj:iF oj.op=true) (hc:qL ops effs pures i j=true) (hei:pures.contains i=true->effs.contains i=false) (hej:pures.contains j=true->effs.contains j=false)
 {K:Act->World->Prop} {a:Act} {w:World} (h:bg P ops R Q C effs pures i (bg P ops R Q C effs pures j K) a w):bg P ops R Q C effs pures j (bg P ops R Q C effs pures i K) a w:=by
 unfold qL at hc
 simp only[hi,hj,Bool.and_eq_true,Bool.or_eq_true,Bool.not_eq_true'] at hc
 obtain⟨⟨⟨apij,apji⟩,ei'⟩,hk⟩:=hc;obtain⟨h1,h2,h3⟩:=Oper.apart_spec apij;have hsi:=jd hpi;have hsj:=jd hpj;unfold bg at h ⊢
 simp only[hi,hj] at h ⊢
 by_cases ej:effs.contains j=true
 ·-- j may do anything: i is pure
  have pj:pures.contains j=false:=by cases hp:pures.contains j;rfl;rw[hej hp] at ej;cases ej
  have pi:pures.contains i=true:=by
   rcases hk with hk|hk
   ·exact hk
   rw[hk] at ej;cases ej
  simp only[ej,ei',pi,if_true,Bool.false_eq_true,if_false] at h ⊢
  obtain⟨v,hv,hh⟩:=h;have:=wpOp_putIf (S:=C i) hj apij hsi hsj (fun _ _ _ hq=>hq.NS) hv hh;exact wpOp_mono (fun a' w' hx=>⟨hx.2.1,v,hx.1,hx.2.2⟩) this
 have ej':effs.contains j=false:=by simpa using ej
 skip
 simp only[ei',ej',Bool.false_eq_true,if_false] at h ⊢
 -- neither does anything to the world
 have key:∀ (Yi Yj:Value->Act->Prop),(∀ v (x:Act) d u,Yi v x->(∀ t,d=some t->t∉oi.looksAt ops)->Yi v (x.put d u))->(∀ v (x:Act) d u,Yj v (x.put d u)->(∀ t,d=some t->t∉oj.looksAt ops)->Yj v x) ->
  (∃ v,Yi v a/\∃ u,Yj u (a.put oi.dst v)/\K ((a.put oi.dst v).put oj.dst u) w)->∃ u,Yj u a/\∃ v,Yi v (a.put oj.dst u)/\K ((a.put oj.dst u).put oi.dst v) w:=by
  rintro Yi Yj ki kj ⟨v,hv,u,hu,hK⟩;exact⟨u,kj u a oi.dst v hu h1,v,ki v a oj.dst u hv h3,by rw[<-Act.put_comm a v u h2];exact hK⟩
 have pif:∀ (k:Nat) (o:Oper) (hs:∀ cs b,o.op≠.select cs b) v (x:Act) d u,YieldsIf P ops (C k) o v x->(∀ t,d=some t->t∉o.looksAt ops)->YieldsIf P ops (C k) o v (x.put d u) :=
  fun k o hs v x d u hy hd=>hy.of_same (execOp_put o hs x d u hd) (wanted_put o x d u hd)
 have pif':∀ (k:Nat) (o:Oper) (hs:∀ cs b,o.op≠.select cs b) v (x:Act) d u,YieldsIf P ops (C k) o v (x.put d u)->(∀ t,d=some t->t∉o.looksAt ops)->YieldsIf P ops (C k) o v x :=
  fun k o hs v x d u hy hd=>hy.of_same (execOp_put o hs x d u hd).symm (wanted_put o x d u hd).symm
 have pin:∀ (o:Oper) (hs:∀ cs b,o.op≠.select cs b) v (x:Act) d u,YieldsIn P ops (fun w'=>w'=w) o v x->(∀ t,d=some t->t∉o.looksAt ops)->YieldsIn P ops (fun w'=>w'=w) o v (x.put d u) :=
  fun o hs v x d u hy hd=>hy.of_same (execOp_put o hs x d u hd) (wanted_put o x d u hd)
 have pin':∀ (o:Oper) (hs:∀ cs b,o.op≠.select cs b) v (x:Act) d u,YieldsIn P ops (fun w'=>w'=w) o v (x.put d u)->(∀ t,d=some t->t∉o.looksAt ops)->YieldsIn P ops (fun w'=>w'=w) o v x :=
  fun o hs v x d u hy hd=>hy.of_same (execOp_put o hs x d u hd).symm (wanted_put o x d u hd).symm
 by_cases pi:pures.contains i=true <;> by_cases pj:pures.contains j=true
 ·simp only[pi,pj,if_true] at h ⊢
  exact key _ _ (pif i oi hsi) (pif' j oj hsj) h
 ·have pj':pures.contains j=false:=by simpa using pj
  simp only[pi,pj',if_true,Bool.false_eq_true,if_false] at h ⊢
  exact key _ _ (pif i oi hsi) (pin' oj hsj) h
 ·have pi':pures.contains i=false:=by simpa using pi
  simp only[pi',pj,if_true,Bool.false_eq_true,if_false] at h ⊢
  exact key _ _ (pin oi hsi) (pif' j oj hsj) h
 have pi':pures.contains i=false:=by simpa using pi
 have pj':pures.contains j=false:=by simpa using pj
 simp only[pi',pj',Bool.false_eq_true,if_false] at h ⊢
 exact key _ _ (pin oi hsi) (pin' oj hsj) h
def aW (P:Program) (ops:Array Oper) (R:List PanicEntry->List Deferred->World->Prop) (Q:Exit->Act->World->Prop) (C:Nat->World->Prop) (effs pures:List Nat):Plan->Act->World->Prop
 | .leaf,a,w=>Q .normal a w
 | .step i t,a,w=>bg P ops R Q C effs pures i (aW P ops R Q C effs pures t) a w
 | .fork i s k t,a,w=>bg P ops R Q C effs pures i (aW P ops R Q C effs pures s) a w/\bg P ops R Q C effs pures k (aW P ops R Q C effs pures t) a w
theorem pull {j:Nat} (hp:∀ (j:Nat) o,ops[j]?=some o->iF o.op=true) (hpe:∀ (j:Nat) o,ops[j]?=some o->pures.contains j=true->effs.contains j=false) :
 ∀ t:Plan,xE ops effs pures t=true->(∀ i∈t.idx,i<ops.size)->j∈t.idx->(∀ i∈t.idx,i≠j->waits ops 12 j i=false) ->
 ∃ t':Plan,xE ops effs pures t'=true/\(∀ i,i∈t'.idx↔i∈t.idx/\i≠j)/\t'.idx.length+1=t.idx.length /\
  ∀ a w,aW P ops R Q C effs pures t a w->bg P ops R Q C effs pures j (aW P ops R Q C effs pures t') a w:=by
 intro t
 induction t with
 | leaf=>intro _ _ hj;cases hj
 | step i t ih =>
   intro hok hlt hj hw
   simp only[xE,Bool.and_eq_true,Bool.not_eq_true',List.all_eq_true] at hok
   obtain⟨⟨h1,h2⟩,h3⟩:=hok;have h2':i∉t.idx:=fun hm=>by rw[List.contains_iff_mem.2 hm] at h2;cases h2
   by_cases e:j=i
   ·subst e;refine⟨t,h1,fun i=>?_,rfl,fun a w h=>h⟩
    simp only[Plan.idx,List.mem_cons]
    constructor
    ·intro hi;exact⟨Or.inr hi,fun e=>h2' (e▸hi)⟩
    rintro⟨hi|hi,hne⟩
    ·exact absurd hi hne
    exact hi
   have hj':j∈t.idx:=by
    rcases List.mem_cons.1 hj with h|h
    ·exact absurd h e
    exact h
   obtain⟨t',o1,o2,o3,o4⟩:=ih h1 (fun i hi=>hlt i (List.mem_cons_of_mem _ hi)) hj' (fun i hi=>hw i (List.mem_cons_of_mem _ hi));have hcm:qL ops effs pures i j=true:=by
    have:=h3 j hj';rw[Bool.or_eq_true] at this;rcases this with h|h
    ·exact h
    rw[hw i (by simp[Plan.idx]) (fun e2=>e e2.symm)] at h;cases h
   have hil:=hlt i (by simp[Plan.idx]);have hjl:=hlt j hj;obtain⟨oi,hoi⟩:∃ o,ops[i]?=some o:=⟨_,Array.getElem?_eq_getElem hil⟩;obtain⟨oj,hoj⟩:∃ o,ops[j]?=some o:=⟨_,Array.getElem?_eq_getElem hjl⟩;refine⟨.step i t',?_,fun x=>?_,by simp[Plan.idx];omega,fun a w h=>?_⟩
   ·simp only[xE,Bool.and_eq_true,Bool.not_eq_true',List.all_eq_true]
    refine⟨⟨o1,?_⟩,fun x hx=>h3 x ((o2 x).1 hx).1⟩
    cases hc:t'.idx.contains i with
    | false=>rfl
    | true=>exact absurd ((o2 i).1 (List.contains_iff_mem.1 hc)).1 h2'
   ·simp only[Plan.idx,List.mem_cons,o2]
    constructor
    ·rintro (h|⟨h,h'⟩)
     ·exact⟨Or.inl h,fun e2=>e (e2.symm.trans h)⟩
     exact⟨Or.inr h,h'⟩
    rintro⟨h|h,h'⟩
    ·exact Or.inl h
    exact Or.inr ⟨h,h'⟩
   have h0:bg P ops R Q C effs pures i (bg P ops R Q C effs pures j (aW P ops R Q C effs pures t')) a w:=jR o4 h;exact pR hoi hoj (hp i oi hoi) (hp j oj hoj) hcm (hpe i oi hoi) (hpe j oj hoj) h0
 | fork i s k t ihs iht =>
   intro hok hlt hj hw
   simp only[xE,Bool.and_eq_true,Bool.not_eq_true',List.all_eq_true,beq_iff_eq] at hok
   obtain⟨⟨⟨⟨⟨⟨⟨h1,h2⟩,h3⟩,h4⟩,h5⟩,h6⟩,h7⟩,h8⟩:=hok;have h3':i∉s.idx:=fun hm=>by rw[List.contains_iff_mem.2 hm] at h3;cases h3
   have h4':k∉t.idx:=fun hm=>by rw[List.contains_iff_mem.2 hm] at h4;cases h4
   have sub1:∀ x,x∈i::s.idx->x∈k::t.idx:=fun x hx=>List.contains_iff_mem.1 (h6 x hx)
   have sub2:∀ x,x∈k::t.idx->x∈i::s.idx:=fun x hx=>List.contains_iff_mem.1 (h7 x hx)
   have shape:∀ (j:Nat) (l:List Nat),j∉l->∀ x,x∈l↔x∈j::l/\x≠j:=fun j l hn x=>by
    simp only[List.mem_cons]
    constructor
    ·intro hi;exact⟨Or.inr hi,fun e=>hn (e▸hi)⟩
    rintro⟨hi|hi,hne⟩
    ·exact absurd hi hne
    exact hi
   by_cases e:j=i
   ·subst e;exact⟨s,h1,shape j s.idx h3',rfl,fun a w h=>h.1⟩
   by_cases e2:j=k
   ·subst e2;refine⟨t,h2,fun x=>(shape j t.idx h4' x).trans ⟨fun h=>⟨sub2 x h.1,h.2⟩,fun h=>⟨sub1 x h.1,h.2⟩⟩,by simp[Plan.idx];omega,fun a w h=>h.2⟩
   exfalso
   have hj':j∈s.idx:=by
    rcases List.mem_cons.1 hj with h|h
    ·exact absurd h e
    exact h
   have:=h8 j hj';rw[Bool.or_eq_true,Bool.or_eq_true,beq_iff_eq] at this;rcases this with (h|h)|h
   ·exact e2 h
   ·rw[hw i (by simp[Plan.idx]) (fun e3=>e e3.symm)] at h;cases h
   rw[hw k (sub2 k (by simp)) (fun e3=>e2 e3.symm)] at h;cases h
theorem jo (hp:∀ (j:Nat) o,ops[j]?=some o->iF o.op=true) (hback:∀ (j:Nat) o,ops[j]?=some o->∀ e∈o.after,Region.binds .any e=true->e.on<j)
 (hpe:∀ (j:Nat) o,ops[j]?=some o->pures.contains j=true->effs.contains j=false):∀ (fuel:Nat) (t:Plan) (listed:Array Bool) (a:Act) (w:World),listed.size=ops.size->xE ops effs pures t=true->t.idx.length=fuel ->
 (∀ i,i∈t.idx↔i<ops.size/\listed.getD i true=false)->Closed ops listed ->
 (∀ i,i∈t.idx->pures.contains i=true->C i w)->aW P ops R Q C effs pures t a w->wpAny P .any ops (Fall R Q) fuel listed a w:=by
 intro fuel
 induction fuel with
 | zero =>
   intro t listed a w hsz hok hf hmem hc hcw h;have ht:t=.leaf:=by
    cases t with
    | leaf=>rfl
    | step i t=>simp[Plan.idx] at hf
    | fork i s k t=>simp[Plan.idx] at hf
   subst ht;refine⟨?_,h⟩
   cases hr:Region.ready .any ops listed with
   | nil=>rfl
   | cons i l =>
     obtain⟨h1,o,ho,_⟩:=mem_ready.1 (by rw[hr];simp:i∈Region.ready .any ops listed);have:=(hmem i).2 ⟨(Array.getElem?_eq_some_iff.1 ho).1,h1⟩
     cases this
 | succ fuel ih =>
   intro t listed a w hsz hok hf hmem hc hcw h
   -- something is left,so something may come up: the first of what is left
   have first:Region.ready .any ops listed≠[]:=by
    intro hr;have hne:rest ops.size listed≠[]:=by
     intro he;obtain⟨i,hi⟩:∃ i,i∈t.idx:=by
      cases hx:t.idx with
      | nil=>rw[hx] at hf;cases hf
      | cons i l=>exact⟨i,by simp⟩
     have h2:=(hmem i).1 hi;have:i∈rest ops.size listed:=by simp[rest];exact⟨h2.1,by simpa using h2.2⟩
     rw[he] at this;cases this
    have mem_rest:∀ i,i∈rest ops.size listed↔i<ops.size/\listed.getD i true=false:=by
     intro i;simp[rest]
    cases hl:rest ops.size listed with
    | nil=>exact hne hl
    | cons i l =>
      have hi:=(mem_rest i).1 (by rw[hl];simp);have hsorted:(rest ops.size listed).Pairwise (·<·):=List.Pairwise.filter _ List.pairwise_lt_range;rw[hl] at hsorted;have hmin:∀ k,k<i->listed.getD k false=true:=by
       intro k hk;have hks:k<ops.size:=Nat.lt_trans hk hi.1;by_cases hx:listed.getD k true=false
       ·have:k∈rest ops.size listed:=(mem_rest k).2 ⟨hks,hx⟩;rw[hl] at this;rcases List.mem_cons.1 this with e|e
        ·omega
        have:=(List.pairwise_cons.1 hsorted).1 k e;omega
       have hks':k<listed.size:=by omega
       simp[hks'] at hx ⊢;exact hx
      have:i∈Region.ready .any ops listed:=by
       obtain⟨o,ho⟩:∃ o,ops[i]?=some o:=⟨_,Array.getElem?_eq_getElem hi.1⟩;exact mem_ready.2 ⟨hi.2,o,ho,fun e he hb=>hmin e.on (hback i o ho e he hb)⟩
      rw[hr] at this;cases this
   refine⟨fun h0=>absurd h0 first,fun j hj=>?_⟩;obtain⟨hjun,oj,hoj,hall⟩:=mem_ready.1 hj;have hjs:j<ops.size:=(Array.getElem?_eq_some_iff.1 hoj).1;have hjm:j∈t.idx:=(hmem j).2 ⟨hjs,hjun⟩;have nowait:∀ i∈t.idx,i≠j->waits ops 12 j i=false:=(fun i hi hne=>by
    cases hwt:waits ops 12 j i with
    | false=>rfl
    | true =>
      exfalso
      have:=lI hc 12 j i hwt (fun o ho e he hb=>by rw[hoj] at ho;cases ho;exact hall e he hb);have hir:=(hmem i).1 hi;have his:i<listed.size:=by omega
      have h2:=hir.2;simp[his] at this h2;rw[this] at h2;cases h2)
   obtain⟨t',o1,o2,o3,o4⟩:=pull (P:=P) (Q:=Q) (R:=R) (C:=C) hp hpe t hok (fun i hi=>((hmem i).1 hi).1) hjm nowait;have hjl:j<listed.size:=by omega
   have hclosed:Closed ops (listed.setIfInBounds j true):=by
    intro k o ho hk e he hb;by_cases e1:k=j
    ·subst e1;rw[hoj] at ho;cases ho;exact getD_set_true (hall e he hb)
    rw[getD_set_ne false (Ne.symm e1)] at hk;exact getD_set_true (hc k o ho hk e he hb)
   refine wpOp_mono (fun a' w' hx=>?_) (jS (hcw j hjm) (o4 a w h));have hcw':∀ i,i∈t'.idx->pures.contains i=true->C i w':=fun i hi hp=>by
    have hit:=(o2 i).1 hi;rcases hx.1 with hC|rfl
    ·refine hC i ?_;unfold vw;rw[Bool.and_eq_true,Bool.and_eq_true];exact⟨hp,by rw[bne_iff_ne];exact hit.2,by rw[nowait i hit.1 hit.2];rfl⟩
    exact hcw i hit.1 hp
   refine ih t' (listed.setIfInBounds j true) a' w' (by simp[hsz]) o1 (by omega) (fun i=>?_) hclosed hcw' hx.2;rw[o2,hmem];by_cases e:i=j
   ·subst e;simp[hjl]
   rw[getD_set_ne true (Ne.symm e)];simp[e]
theorem aU {id:Nat} {l:List Oper} {a:Act} {w:World} (effs pures:List Nat) (t:Plan) (R:List PanicEntry->List Deferred->World->Prop) (hm:P.follows .mixedOrders=true) (hR:∀ c a w,R c a.defers w->Q (.panic c) a w) (hB:zn l.toArray effs pures t=true) (hC:∀ i,C i w.drew) (h:aW P l.toArray R Q C effs pures t a w.drew):(Code.region id l.toArray true).wp P Q a w:=by
 obtain⟨b1,b2,b3,b4,b5,b6⟩:=rG hB;have h1:(Code.region id l.toArray true).wp P (Fall R Q) a w:=by
  refine wp_region_any hm (jo (effs:=effs) (pures:=pures) (Q:=Q) (R:=R) b1 b2 b3 l.toArray.size t (Array.replicate l.toArray.size false) a w.drew (by simp) b4 b5 (fun i=>?_) ?_ (fun i _ _=>hC i) h)
  ·rw[b6]
   constructor
   ·intro hi;refine⟨hi,?_⟩;simp at hi;simp[hi]
   intro hi;exact hi.1
  intro k o ho hk;have hks:k<l.toArray.size:=(Array.getElem?_eq_some_iff.1 ho).1
  simp at hks
  simp[hks] at hk
 exact wp_mono h1 (fun e a w hq=>hq.imp hR)
variable {l:List Oper}
theorem bG {a:Act} {w:World} (h:Q .normal a w):aW P l.toArray R Q C effs pures .leaf a w:=h
theorem aB:∀ (is:List Nat) {t:Plan} {a:Act} {w:World},oK l effs pures is=true ->
 wpQuiet P l.toArray (fun w'=>w'=w) (fun a'=>aW P l.toArray R Q C effs pures t a' w) (au l is) a->aW P l.toArray R Q C effs pures (.steps is t) a w
 | [],_,_,_,_,h=>h
 | i::is,t,a,w,hn,h=>by
   unfold oK at hn
   simp only[List.all_cons,Bool.and_eq_true,Bool.not_eq_true'] at hn
   obtain⟨o,ho⟩:=Option.isSome_iff_exists.1 hn.1.2;have h0:l.toArray[i]?=some o:=by rw[kZ] at ho;simpa using ho
   unfold au at h;rw[ho] at h;have hq:qOp P l.toArray (fun w'=>w'=w) i (wpQuiet P l.toArray (fun w'=>w'=w) (fun a'=>aW P l.toArray R Q C effs pures t a' w) (au l is)) a:=by
    unfold qOp;simp only[h0];exact h
   obtain⟨v,hy,hK⟩:=yieldsIn_of_qOp h0 hq
   show bg P l.toArray R Q C effs pures i (aW P l.toArray R Q C effs pures (.steps is t)) a w
   unfold bg
   simp only[h0,hn.1.1.1,hn.1.1.2,Bool.false_eq_true,if_false]
   exact⟨v,hy,aB is (by unfold oK;exact hn.2) hK⟩
theorem bK (D:World->Prop):∀ (is:List Nat) {t:Plan} {a:Act} {w:World},sO l effs pures is=true->(∀ i,i∈is->∀ w,C i w->D w) ->
 wpQuiet P l.toArray D (fun a'=>aW P l.toArray R Q C effs pures t a' w) (au l is) a->aW P l.toArray R Q C effs pures (.steps is t) a w
 | [],_,_,_,_,_,h=>h
 | i::is,t,a,w,hn,hD,h=>by
   unfold sO at hn
   simp only[List.all_cons,Bool.and_eq_true,Bool.not_eq_true'] at hn
   have ho:∃ o,nth l i=some o/\Keep.iY o.op=true:=by
    have h2:=hn.1.2
    cases hx:nth l i with
    | none=>rw[hx] at h2;cases h2
    | some o=>rw[hx] at h2;exact⟨o,rfl,h2⟩
   obtain⟨o,ho,hs⟩:=ho;have h0:l.toArray[i]?=some o:=by rw[kZ] at ho;simpa using ho
   unfold au at h;rw[ho] at h;have hq:qOp P l.toArray D i (wpQuiet P l.toArray D (fun a'=>aW P l.toArray R Q C effs pures t a' w) (au l is)) a:=by
    unfold qOp;simp only[h0];exact h
   obtain⟨v,hy,hK⟩:=yieldsIn_of_qOp h0 hq
   show bg P l.toArray R Q C effs pures i (aW P l.toArray R Q C effs pures (.steps is t)) a w
   unfold bg
   simp only[h0,hn.1.1.1,hn.1.1.2,Bool.false_eq_true,if_false,if_true]
   refine⟨v,?_,bK D is (by unfold sO;exact hn.2) (fun k hk=>hD k (List.mem_cons_of_mem _ hk)) hK⟩;rcases hy with ⟨hw,hv⟩|⟨hw,hv⟩
   ·refine .inl ⟨hw,fun w' hw'=>?_⟩;have h1:=hv w' (hD i (by simp) w' hw');unfold Oper.quietAt at h1
    cases hr:(execOp a.eval o).run P w' with
    | halt x w1=>rw[hr] at h1;exact h1.elim
    | ok n w1 =>
      obtain⟨u,rfl⟩:=Keep.oJ hs w' n w1 hr;rw[hr] at h1;obtain⟨e1,e2⟩:=h1;rw[e1,e2]
   exact .inr ⟨hw,hv⟩
theorem aK {k:Nat} {t:Plan} {a:Act} {w:World} (he:effs.contains k=true) (hg:(nth l k).all (fun o=>o.guard.isNone)=true)
 (h:∀ K:Act->World->Prop,(∀ a w,(∀ i,vw l.toArray pures k i=true->C i w)->aW P l.toArray R Q C effs pures t a w->K a w)->vM P K (Fall R Q) (au l [k]) a w):aW P l.toArray R Q C effs pures (.step k t) a w:=by
 show bg P l.toArray R Q C effs pures k (aW P l.toArray R Q C effs pures t) a w
 cases hx:nth l k with
 | none =>
   have:=h (fun a w=>(∀ i,vw l.toArray pures k i=true->C i w)/\aW P l.toArray R Q C effs pures t a w) (fun a w hc ht=>⟨hc,ht⟩);unfold au at this;rw[hx] at this;exact this.elim
 | some o =>
   have h0:l.toArray[k]?=some o:=by rw[kZ] at hx;simpa using hx
   unfold bg
   simp only[h0,he,if_true]
   unfold wpOp
   simp only[h0]
   rw[hx] at hg;rw[if_pos (by
    have:o.guard=none:=by simpa using hg
    simp[Region.wanted,this])]
   refine Or.inl ?_;have:=h (fun a w=>(∀ i,vw l.toArray pures k i=true->C i w)/\aW P l.toArray R Q C effs pures t a w) (fun a w hc ht=>⟨hc,ht⟩);unfold au at this;rw[hx] at this;exact this
theorem zo {k x:Nat} {t:Plan} {a:Act} {w:World} (he:effs.contains k=true) (hg:(nth l k).all (fun o=>o.guard.isNone)=true) (hn:pures.all (fun i=>!vw l.toArray pures k i||i==x)=true)
 (h:∀ K:Act->World->Prop,(∀ a w,C x w->aW P l.toArray R Q C effs pures t a w->K a w)->vM P K (Fall R Q) (au l [k]) a w):aW P l.toArray R Q C effs pures (.step k t) a w :=
 aK he hg (fun K hK=>h K (fun a w hc ht=>hK a w (fun i hi=>by
  have hm:i∈pures:=by
   unfold vw at hi;rw[Bool.and_eq_true] at hi;exact List.contains_iff_mem.1 hi.1
  have:=List.all_eq_true.1 hn i hm;rw[hi] at this;have e:i=x:=by simpa using this
  rw[e];exact hc) ht))
end
end Go.Bw.kM
namespace Go.Proofs.YtcepekniflaoaaaGreatDoor
open Go.RowKit Go.Bw Go.Maps Go.Shelf Go.Bw.Fall
structure o9 (w:World) (R1 b9:Nat) (bs:List (Nat×TypeId×Array Value)) (L0:aI) (ps:List Pos) (f:Pos->Option (Int×Int)) (c:Pos->Int) (frm:Int) (k:Nat) (V':aC) (M:aI) (W':World):Prop where
 iQ:dS w R1 ((b9, 31,V'.cells M)::bs) V' M W'
 go:dD f c frm (ps.drop k) M=dD f c frm ps L0
 dn:dV L0 M
theorem o9.more {w:World} {R1 b9:Nat} {bs:List (Nat×TypeId×Array Value)} {L0:aI} {ps:List Pos} {f:Pos->Option (Int×Int)} {c:Pos->Int} {frm:Int} {k:Nat} {V':aC} {M:aI} {W':World} (h:o9 w R1 b9 bs L0 ps f c frm k V' M W') (T:TypeId) (cells:Array Value):o9 w R1 b9 ((W'.heap.size,T,cells)::bs) L0 ps f c frm k V' M (W'.alloc (.cells cells T)):=⟨h.iQ.add1 T cells,h.go,h.dn⟩
theorem o9.OU {w:World} {R1 b9:Nat} {bs:List (Nat×TypeId×Array Value)} {L0:aI} {ps:List Pos} {f:Pos->Option (Int×Int)} {c:Pos->Int} {frm:Int} {k:Nat} {V':aC} {M:aI} {W' W2:World} (h:o9 w R1 b9 bs L0 ps f c frm k V' M W') (hb:Below W'.heap.size W' W2):o9 w R1 b9 bs L0 ps f c frm k V' M W2:=⟨h.iQ.go hb,h.go,h.dn⟩
theorem o9.less {w:World} {R1 b9:Nat} {x:Nat×TypeId×Array Value} {bs:List (Nat×TypeId×Array Value)} {L0:aI} {ps:List Pos} {f:Pos->Option (Int×Int)} {c:Pos->Int} {frm:Int} {k:Nat} {V':aC} {M:aI} {W':World} (h:o9 w R1 b9 (x::bs) L0 ps f c frm k V' M W'):o9 w R1 b9 bs L0 ps f c frm k V' M W':=⟨h.iQ.drop1,h.go,h.dn⟩
theorem o9.skip {w:World} {R1 b9:Nat} {bs:List (Nat×TypeId×Array Value)} {L0:aI} {ps:List Pos} {f:Pos->Option (Int×Int)} {c:Pos->Int} {frm:Int} {k:Nat} {V':aC} {M:aI} {W':World} (h:o9 w R1 b9 bs L0 ps f c frm k V' M W') {p:Pos} (hp:ps[k]?=some p) (hf:f p=none):o9 w R1 b9 bs L0 ps f c frm (k+1) V' M W':=⟨h.iQ,by rw[<-h.go,drop_at hp,rq hf],h.dn⟩
theorem o9.next {w:World} {R1 b9:Nat} {bs cs:List (Nat×TypeId×Array Value)} {L0:aI} {ps:List Pos} {f:Pos->Option (Int×Int)} {c:Pos->Int} {frm:Int} {k:Nat} {V' U:aC} {M:aI} {W' W2:World} (h:o9 w R1 b9 bs L0 ps f c frm k V' M W') {p:Pos} {x:Int×Int} (hp:ps[k]?=some p) (hf:f p=some x) (hx:x.2=0) (hr:(fV M (c p) x.1 frm p.ak).2=0)
 (hfr:0<=frm/\frm<L0.ai.length) (ha:0<=p.ak/\p.ak<L0.ai.length) (F:dS w R1 ((b9, 31,U.cells (fV M (c p) x.1 frm p.ak).1)::cs) U (fV M (c p) x.1 frm p.ak).1 W2):o9 w R1 b9 cs L0 ps f c frm (k+1) U (fV M (c p) x.1 frm p.ak).1 W2 :=
 ⟨F,by rw[<-h.go,drop_at hp,qZ hf hx hr],h.dn.trans (mM ⟨hfr.1,by rw[h.dn.len];exact hfr.2⟩ ⟨ha.1,by rw[h.dn.len];exact ha.2⟩ hr)⟩
theorem Dx (w:World) (V:aC) (L:aI) (h:bJ w V L) (hL:L.ai.length<=1024) (u x:Int) :
 Calls Tryz.prog 12 #[V.val L,.int .i64 u,.int .i64 x] w (mO w (jh L (gX L u x))):=by
 classical
 have LC:=zq (iw h);have HH:=zq h;have GD:=zq (show ∀ W,Below w.heap.size w W->∀ B:Bool,decide L.Good=B->Calls Tryz.prog 31 #[V.val L] W fun e w'=>e=.returned (.bool B)/\Below W.heap.size W w' from fun W hb B hB=>Du (h.below hb) hL hB);have CP:=zq (fun W (hb:Below w.heap.size w W) (hg:L.Good)=>qG W V L (h.below hb) (gy hg).1 (fun a ha=>by have:=(gy hg).2.1 a ha;omega));unfold aC.val at GD CP ⊢;obtain⟨C,hC⟩:=Zn (V.cells L);have EC:=zq hC;rw[<-hC] at GD CP LC ⊢;obtain⟨W0,hW0⟩:=Zn ((w.alloc (.cells C 31)).alloc (.cells #[.int .i64 0,.slice none 0 0,.slice none 0 0,.slice none 0 0,.slice none 0 0,.slice none 0 0,.slice none 0 0,.slice none 0 0,.slice none 0 0] 31));obtain⟨b0,hb0⟩:=Zn w.heap.size;have X0:=zq (show At w W0 [(b0, 31,C),(b0+1, 31,bF)] from by
  have a:=(((At.start w).alloc 31 C).alloc 31 #[.int .i64 0,.slice none 0 0,.slice none 0 0,.slice none 0 0,.slice none 0 0,.slice none 0 0,.slice none 0 0,.slice none 0 0,.slice none 0 0]);have e:∀ (w:World) (o:Obj),(w.alloc o).heap.size=w.heap.size+1:=fun w o=>by simp
  simp only[e] at a
  rw[<-hW0,<-hb0] at a;exact a)
 clear h hL hC
 go_enter Tryz.func12,Tryz.ntmps12
 go_upto_region 1 with (fail)
 rw[<-hW0,<-hb0];clear hW0 hb0
 go_wp2_with (refine bW (X0.o.get 0 rfl) LC.o rfl rfl rfl ?_)
 by_cases hg:L.Good;rotate_left
 ·refine (GD.o W0 X0.o.low false (decide_eq_false hg)).mono ?_;rintro e w1 ⟨rfl,hb⟩;have XX:=zq (X0.o.go hb);have HG:=zq hg;clear hb X0 hg GD
  go_wp2_with fail
  refine (gV 43 _).mono ?_;rintro e w9 ⟨rfl,hb⟩;have XN:=zq (XX.o.go hb);clear hb
  go_wp2_with (refine aZ (cs:=bF) (XN.o.get 1 rfl) bI bI rfl rfl rfl rfl ?_)
  refine bodyPost_ret (bZ (cs:=bF) rfl _ _ (setRow_heap _ _ _ _ _ _ (XN.o.get 1 rfl)) bI rfl) rfl (by first|exact fU XN.o (k:=1) rfl (mZ HG.o _)|simpa using fU XN.o (k:=1) rfl (mZ HG.o _))
 refine (GD.o W0 X0.o.low true (decide_eq_true hg)).mono ?_;rintro e w1 ⟨rfl,hb⟩;have XX:=zq (X0.o.go hb);have HG:=zq hg;clear hb X0 hg GD;obtain⟨a2,c2,e2⟩:=HH.o.ah.form;obtain⟨n2,hn2⟩:=Zn L.ah.length;have N2:=zq hn2;have GOODL:=zq (fun (he:(gX L u x).err=0)=>tX HG.o he);have AC:=zq (ou HG.o);have y2:w1.cell? ⟨b0,2,none⟩=some (.slice a2 n2 c2):=XX.o.cell 0 rfl 2 (by rw[EC.o,hn2,<-e2];rfl);clear e2 hn2;by_cases h0:u<0
 ·have d0:decide (u<0)=true:=decide_eq_true h0
  go_wp2_with fail
  refine (gV 31 _).mono ?_;rintro e w9 ⟨rfl,hb⟩;have XN:=zq (XX.o.go hb);clear hb
  go_wp2_with (refine aZ (cs:=bF) (XN.o.get 1 rfl) bI bI rfl rfl rfl rfl ?_)
  refine bodyPost_ret (bZ (cs:=bF) rfl _ _ (setRow_heap _ _ _ _ _ _ (XN.o.get 1 rfl)) bI rfl) rfl (by first|exact fU XN.o (k:=1) rfl (by rw[eF HG.o (by unfold gX;rw[if_neg (by omega)];decide)];unfold gX;rw[if_neg (by omega)];rfl)|simpa using fU XN.o (k:=1) rfl (by rw[eF HG.o (by unfold gX;rw[if_neg (by omega)];decide)];unfold gX;rw[if_neg (by omega)];rfl))
 obtain⟨kk,rfl⟩:∃ k:Nat,u=k:=⟨u.toNat,by omega⟩;by_cases h1:kk<n2;rotate_left
 ·have h1':(n2:Int)<=(kk:Int):=by omega
  go_wp2_with fail
  refine (gV 31 _).mono ?_;rintro e w9 ⟨rfl,hb⟩;have XN:=zq (XX.o.go hb);clear hb
  go_wp2_with (refine aZ (cs:=bF) (XN.o.get 1 rfl) bI bI rfl rfl rfl rfl ?_)
  refine bodyPost_ret (bZ (cs:=bF) rfl _ _ (setRow_heap _ _ _ _ _ _ (XN.o.get 1 rfl)) bI rfl) rfl (by first|exact fU XN.o (k:=1) rfl (by rw[eF HG.o (by unfold gX;rw[if_neg (by have:=N2.o;omega)];decide)];unfold gX;rw[if_neg (by have:=N2.o;omega)];rfl)|simpa using fU XN.o (k:=1) rfl (by rw[eF HG.o (by unfold gX;rw[if_neg (by have:=N2.o;omega)];decide)];unfold gX;rw[if_neg (by have:=N2.o;omega)];rfl))
 have hk':=zq (show kk<L.ah.length from by rw[<-N2.o];exact h1);have h1':¬ (n2:Int)<=(kk:Int):=by omega
 have h2':¬ (kk:Int)<0:=by omega
 clear h0 h1;have WHY1:=zq (show ¬ (0<=x/\x<=1000000000000)->jh L (gX L (kk:Int) x)=(L0,0,1) from fun h=>by
  have e:gX L (kk:Int) x=.no 1:=by unfold gX;rw[if_pos (by have:=hk'.o;omega),if_neg h]
  rw[e,eF HG.o (by decide)];rfl)
 by_cases hx0:x<0
 ·have WHY:=zq (WHY1.o (by omega));have d0:decide (x<0)=true:=decide_eq_true hx0;clear hx0
  go_wp2_with fail
  refine (gV 1 _).mono ?_;rintro e w9 ⟨rfl,hb⟩;have XN:=zq (XX.o.go hb);clear hb
  go_wp2_with (refine aZ (cs:=bF) (XN.o.get 1 rfl) bI bI rfl rfl rfl rfl ?_)
  refine bodyPost_ret (bZ (cs:=bF) rfl _ _ (setRow_heap _ _ _ _ _ _ (XN.o.get 1 rfl)) bI rfl) rfl (by first|exact fU XN.o (k:=1) rfl (WHY.o)|simpa using fU XN.o (k:=1) rfl (WHY.o))
 by_cases hx1:1000000000000<x
 ·have WHY:=zq (WHY1.o (by omega));have d0:decide (x<0)=false:=decide_eq_false hx0;have d1:decide (1000000000000<x)=true:=decide_eq_true hx1;clear hx0 hx1
  go_wp2_with fail
  refine (gV 1 _).mono ?_;rintro e w9 ⟨rfl,hb⟩;have XN:=zq (XX.o.go hb);clear hb
  go_wp2_with (refine aZ (cs:=bF) (XN.o.get 1 rfl) bI bI rfl rfl rfl rfl ?_)
  refine bodyPost_ret (bZ (cs:=bF) rfl _ _ (setRow_heap _ _ _ _ _ _ (XN.o.get 1 rfl)) bI rfl) rfl (by first|exact fU XN.o (k:=1) rfl (WHY.o)|simpa using fU XN.o (k:=1) rfl (WHY.o))
 have HX:=zq (show 0<=x/\x<=1000000000000 from ⟨by omega,by omega⟩);have d0:decide (x<0)=false:=decide_eq_false hx0;have d1:decide (1000000000000<x)=false:=decide_eq_false hx1;clear hx0 hx1 WHY1
 go_wp2_with (refine bW (XX.o.get 0 rfl) LC.o rfl rfl rfl ?_)
 refine (CP.o w1 XX.o.low HG.o).mono ?_;rintro e w2 ⟨V2,rfl,own,hb⟩;have FF:=zq (rW XX.o own hb);have L2:=zq (iw own.led);unfold aC.val;clear own hb CP
 go_upto_region 8 with (refine aZ (heap_alloc_last _ _) bI L2.o rfl rfl rfl rfl ?_;rw[World.setRow_alloc_new])
 obtain⟨W3,hW3⟩:=Zn (w2.alloc (.cells (V2.cells L) 31));obtain⟨b9,hb9⟩:=Zn w2.heap.size;rw[<-hW3,<-hb9] at FF;rw[<-hW3,<-hb9];clear hW3 hb9;clear y2 h1' h2' d0 d1;obtain⟨R1,hR1⟩:=Zn w1.heap.size;rw[<-hR1] at FF;have HR1:=zq (show w.heap.size<=R1 from by rw[hR1];exact XX.o.low.size);clear hR1 XX;obtain⟨f,hf⟩:=Zn (Ep L (kk:Int) x);obtain⟨c,hc⟩:∃ c:Pos->Int,c=fun p=>L.dI p.instr:=⟨_,rfl⟩
 have EF:=zq (show ∀ p,c p=L.dI p.instr from fun p=>by rw[hc]);have SF:=zq (show ∀ p:Pos,f p=if (L.ins p.instr).under=(kk:Int)/\(L.ins p.instr).kind=1 then some (dQ (L.ins p.instr) p.qty x) else none from fun p=>by rw[hf];rfl);have ES:=zq (show gX L (kk:Int) x=if (dD f c 0 L.aA L).2=0 then ⟨(dD f c 0 L.aA L).1,(kk:Int),0⟩ else .no (dD f c 0 L.aA L).2 from by unfold gX;rw[if_pos (by have:=hk'.o;omega),if_pos HX.o,<-hf,<-hc]);clear hf hc;obtain⟨a5,c5,e5⟩:=HH.o.aA.form;obtain⟨a3,c3,e3⟩:=HH.o.af.form;have E5:=zq e5;have E3:=zq e3;obtain⟨n5,hn5⟩:=Zn L.aA.length;obtain⟨n3,hn3⟩:=Zn L.af.length;have N5:=zq hn5;have N3:=zq hn3;have y5:W3.cell? ⟨b0,5,none⟩=some (.slice a5 n5 c5):=FF.o.at_.cell 1 rfl 5 (by rw[EC.o,hn5,<-e5];rfl);clear e5 e3 hn5 hn3
 go_wp2_with fail
 go_loopw [50] (fun i wr=>∃ k:Nat,k<=n5/\i=.int .i64 k/\∃ W',W'=wr/\Hid (∃ V' M,o9 w R1 b9 [(b0, 31,C),(b0+1, 31,bF)] L L.aA f c 0 k V' M W')) (fun i _=>n5 - (intOf i).toNat)
 case atStart=>exact⟨0,Nat.zero_le _,rfl,_,rfl,zq ⟨V2,L,FF.o,by rw[List.drop_zero],dV.rfl⟩⟩
 clear y5 FF L2;obtain⟨k,hk,rfl,W',rfl,IV0⟩:=hrel;obtain⟨V',M,IV1⟩:=IV0.o;have IV:=zq IV1;clear IV0 IV1;by_cases hlt:k<n5;rotate_left
 ·have hlt':¬ (k:Int)<(n5:Int):=by omega
  have GO:=zq (show dD f c 0 L.aA L=(M,0) from by rw[<-IV.o.go,pJ (by rw[<-N5.o];omega)];rfl);have F6:=zq IV.o.iQ;clear hlt hk IV;have LE:=zq (iw F6.o.own.led);have EX:=zq (show gX L (kk:Int) x=(⟨M,(kk:Int),0⟩:xW) from by rw[ES.o,GO.o,if_pos rfl]);have EE:=zq (show jh L (gX L (kk:Int) x)=wL M (kk:Int) from by rw[Ap HG.o (by rw[EX.o]),EX.o]);have GE:=zq (show aI.Good M from by
   have:=GOODL.o (by rw[EX.o]);rw[EX.o] at this;exact this)
  have EN:=zq (Dl W' V' M F6.o.own.led GE.o (kk:Int));unfold aC.val at EN
  go_wp2_with (refine bW (F6.o.at_.get 0 rfl) LE.o rfl rfl rfl ?_)
  refine EN.o.mono ?_;obtain⟨a,ha⟩:=Zn (wL M (kk:Int));rw[<-ha] at EE ⊢;rintro e w7 ⟨U,rfl,own,hb⟩;have OW:=zq own;have BB:=zq hb;have X7:=zq (F6.o.at_.go hb);have LU:=zq (iw own.led);unfold aC.val;clear own hb ha EN;go_simp
  go_wp2_with (refine aZ (X7.o.get 2 rfl) bI LU.o rfl rfl rfl rfl ?_)
  exact bodyPost_ret (bZ rfl _ _ (setRow_heap _ _ _ _ _ _ (X7.o.get 2 rfl)) LU.o rfl) rfl (by first|exact vZ F6.o.at_ BB.o OW.o (k:=2) rfl EE.o.symm rfl rfl rfl|simpa using vZ F6.o.at_ BB.o OW.o (k:=2) rfl EE.o.symm rfl rfl rfl)
 have hlt':(k:Int)<(n5:Int):=by omega
 have n64:n5<=64:=by rw[N5.o];exact HG.o.aA.len
 have LT:=zq hlt;obtain⟨p,hp⟩:∃ p,L.aA[k]?=some p:=⟨_,Zg (by rw[<-N5.o];exact hlt)⟩;have HP:=zq hp;have HW:=zq (HH.o.below IV.o.iQ.at_.low);obtain⟨bp,op,cp,ep,hc⟩:=HW.o.aA.place hp;have ea:a5=some ⟨bp,op,none⟩:=by have:=E5.o;rw[ep] at this;injection this with h _ _;exact h.symm
 obtain⟨p2,p3,p4,p5,p6,p7,p8⟩:=HG.o.aA.all p (List.mem_of_getElem? hp);obtain⟨pa,hpa⟩:∃ x:Nat,p.ak=x:=⟨p.ak.toNat,by omega⟩;obtain⟨pn,hpn⟩:∃ x:Nat,p.instr=x:=⟨p.instr.toNat,by omega⟩;have HPA:=zq (And.intro hpa (show 2<=pa/\pa<L.ai.length from ⟨by omega,by omega⟩));have HPN:=zq (And.intro hpn (show pn<L.af.length from by omega));obtain⟨i,hi⟩:=Zn (L.ins (pn:Int));have LI:=zq (show L.af[pn]?=some i from by rw[hi];exact aI.kY HPN.o.2);obtain⟨bi0,oi0,ci0,ei0,hci⟩:=HW.o.af.place LI.o;have ea3:a3=some ⟨bi0,oi0,none⟩:=by have:=E3.o;rw[ei0] at this;injection this with h _ _;exact h.symm
 have q0:W'.cell? ⟨bp,op+k*3,none⟩=some (.int .i64 (pa:Int)):=by have:=hc 0 _ rfl;rw[<-hpa];simpa using this
 have q1:W'.cell? ⟨bp,op+k*3+1,none⟩=some (.int .i64 (pn:Int)):=by rw[<-hpn];exact hc 1 _ rfl
 have q2:=hc 2 _ rfl;subst ea;subst ea3;have SFp:=zq (SF.o p);have HI:=zq hi;clear hp hc ep hlt hk p2 p3 p4 p5 p6 p7 p8 hpa hpn;obtain⟨pq,hpq⟩:=Zn p.qty;have PQ:=zq hpq;rw[<-hpq] at q2;rw[HPN.o.1,<-hpq,<-hi] at SFp;clear hpq hi ei0;have IP:=zq (IV.o.more 50 #[.int .i64 (pa:Int),.int .i64 (pn:Int),.int .i64 pq])
 go_upto_region 11 with (fail)
 obtain⟨W4,hW4⟩:=Zn (W'.alloc (.cells #[.int .i64 (pa:Int),.int .i64 (pn:Int),.int .i64 pq] 50));obtain⟨bq,hbq⟩:=Zn W'.heap.size;rw[<-hW4,<-hbq] at IP;rw[<-hW4,<-hbq];clear hW4 hbq q0 q1 q2;have hal:=(HH.o.below IP.o.iQ.at_.low).af;rw[E3.o] at hal;have y3:W4.cell? ⟨b0,3,none⟩=some (.slice (some ⟨bi0,oi0,none⟩) n3 c3):=IP.o.iQ.at_.cell 2 rfl 3 (by rw[EC.o,N3.o,<-E3.o];rfl);have q1:W4.cell? ⟨bq,1,none⟩=some (.int .i64 (pn:Int)):=IP.o.iQ.at_.cell 1 rfl 1 rfl;have i0:W4.cell? ⟨bi0,oi0+pn*7,none⟩=some (.int .i64 i.kind):=by have:=hal.near LI.o (j:=0) rfl;simpa using this
 have i1:=hal.near LI.o (j:=1) rfl;have i2:=hal.near LI.o (j:=2) rfl;have i3:=hal.near LI.o (j:=3) rfl;have i4:=hal.near LI.o (j:=4) rfl;have i5:=hal.near LI.o (j:=5) rfl;have i6:=hal.near LI.o (j:=6) rfl;have k0:(0:Int)<=(pn:Int):=by omega
 have k1:(pn:Int)<(n3:Int):=by have:=HPN.o.2;have:=N3.o;omega
 have II:=zq (IP.o.more 66 #[.int .i64 i.kind,.int .i64 i.under,.int .i64 i.mult,.int .i64 i.strike,.int .i64 i.aN,.bool i.call,.int .i64 i.mark]);clear hal hci
 go_upto_region 12 with (fail)
 obtain⟨W5,hW5⟩:=Zn (W4.alloc (.cells #[.int .i64 i.kind,.int .i64 i.under,.int .i64 i.mult,.int .i64 i.strike,.int .i64 i.aN,.bool i.call,.int .i64 i.mark] 66));obtain⟨bi,hbi⟩:=Zn W4.heap.size;rw[<-hW5,<-hbi] at II;rw[<-hW5,<-hbi];clear hW5 hbi y3 q1 i0 i1 i2 i3 i4 i5 i6 IP;have i0:W5.cell? ⟨bi,0,none⟩=some (.int .i64 i.kind):=II.o.iQ.at_.cell 1 rfl 0 rfl;have i1:W5.cell? ⟨bi,1,none⟩=some (.int .i64 i.under):=II.o.iQ.at_.cell 1 rfl 1 rfl;by_cases hin:i.under=(kk:Int)/\i.kind=1;rotate_left
 ·have SP:=zq (show f p=none from by rw[SFp.o,if_neg hin]);have NX:=zq ((II.o.skip HP.o SP.o).less.less);by_cases hu:i.under=(kk:Int)
  ·have q1:(i.under != (kk:Int))=false:=by simp[hu]
   have q2:(i.kind != 1)=true:=by simp;exact fun h=>hin ⟨hu,h⟩
   clear hin hu
   go_wp2_with fail
   go_roundw
   case rel=>exact⟨k+1,by have:=LT.o;omega,by go_num,_,rfl,zq ⟨V',M,NX.o⟩⟩
   case measure=>have:=LT.o;simp[intOf];omega
  have q1:(i.under != (kk:Int))=true:=by simp[hu]
  clear hin hu
  go_wp2_with fail
  go_roundw
  case rel=>exact⟨k+1,by have:=LT.o;omega,by go_num,_,rfl,zq ⟨V',M,NX.o⟩⟩
  case measure=>have:=LT.o;simp[intOf];omega
 have SP:=zq (show f p=some (dQ i pq x) from by rw[SFp.o,if_pos hin]);have q3:(i.under != (kk:Int))=false:=by simp[hin.1]
 have q4:(i.kind != 1)=false:=by simp[hin.2]
 obtain⟨y,er,hy⟩:∃ y er,dQ i pq x=(y,er):=⟨_,_,rfl⟩;rw[hy] at SP;have YI:=zq (show er=0->I64 y from fun h=>by subst h;exact zB hy);have CW:=zq (fun W (hb:Below w.heap.size w W)=>Af W V L (HH.o.below hb) pn HPN.o.2 pq x);rw[<-HI.o,hy] at CW;unfold aC.val at CW;rw[<-EC.o] at CW;obtain⟨cu,hcu⟩:∃ cu:Nat,L.dI pn=cu/\cu<L.aQ.length:=HG.o.oU.nG HPN.o.2;have HCU:=zq hcu;have q1:W5.cell? ⟨bq,1,none⟩=some (.int .i64 (pn:Int)):=II.o.iQ.at_.cell 2 rfl 1 rfl;have q2:W5.cell? ⟨bq,2,none⟩=some (.int .i64 pq):=II.o.iQ.at_.cell 2 rfl 2 rfl;clear hin SFp hy hcu
 go_wp2_with (refine bW (II.o.iQ.at_.get 3 rfl) LC.o rfl rfl rfl ?_)
 refine (CW.o W5 II.o.iQ.at_.low).mono ?_;rintro e w6 ⟨rfl,hb⟩;have I6:=zq (II.o.OU hb);clear hb q1 q2 q3 q4 i0 i1 CW II;by_cases hz:er=0;rotate_left
 ·have HZ:=zq hz;have hz':(er != 0)=true:=by rw[bne_iff_ne];exact hz
  have GO:=zq (show dD f c 0 L.aA L=(aI.none,er) from by rw[<-I6.o.go,drop_at HP.o,ul SP.o hz]);have XX:=zq (show At w w6 [(b0, 31,C),(b0+1, 31,bF)] from I6.o.iQ.at_.sub (((List.sublist_cons_self _ _).trans (List.sublist_cons_self _ _)).trans (List.sublist_cons_self _ _)));clear hz
  go_wp2_with fail
  refine (gV er _).mono ?_;rintro e w9 ⟨rfl,hb⟩;have XN:=zq (XX.o.go hb);clear hb
  go_wp2_with (refine aZ (cs:=bF) (XN.o.get 1 rfl) bI bI rfl rfl rfl rfl ?_)
  refine bodyPost_ret (bZ (cs:=bF) rfl _ _ (setRow_heap _ _ _ _ _ _ (XN.o.get 1 rfl)) bI rfl) rfl (by first|exact fU XN.o (k:=1) rfl (by have e:gX L (kk:Int) x=.no er:=(by rw[ES.o,GO.o,if_neg HZ.o]);rw[e,eF HG.o HZ.o];rfl)|simpa using fU XN.o (k:=1) rfl (by have e:gX L (kk:Int) x=.no er:=(by rw[ES.o,GO.o,if_neg HZ.o]);rw[e,eF HG.o HZ.o];rfl))
 have YJ:=zq (YI.o hz);subst hz;have MO:=zq (I6.o.dn.oU HG.o.oU);have CCU:=zq (fun W (F:dS w R1 ((b9, 31,V'.cells M)::(bi, 66,#[.int .i64 i.kind,.int .i64 i.under,.int .i64 i.mult,.int .i64 i.strike,.int .i64 i.aN,.bool i.call,.int .i64 i.mark])::(bq, 50,#[.int .i64 (pa:Int),.int .i64 (pn:Int),.int .i64 pq])::[(b0, 31,C),(b0+1, 31,bF)]) V' M W)=>FO W V L (HH.o.below F.at_.low) HG.o.oU pn HPN.o.2);rw[HCU.o.1] at CCU;unfold aC.val at CCU;rw[<-EC.o] at CCU;have CPA:=zq (fun W (F:dS w R1 ((b9, 31,V'.cells M)::(bi, 66,#[.int .i64 i.kind,.int .i64 i.under,.int .i64 i.mult,.int .i64 i.strike,.int .i64 i.aN,.bool i.call,.int .i64 i.mark])::(bq, 50,#[.int .i64 (pa:Int),.int .i64 (pn:Int),.int .i64 pq])::[(b0, 31,C),(b0+1, 31,bF)]) V' M W)=>Ny W V' M F.own.led MO.o cu 0 pa (by rw[I6.o.dn.aQ];exact HCU.o.2) (by rw[I6.o.dn.len];have:=AC.o;omega) (by rw[I6.o.dn.len];exact HPA.o.2.2) y YJ.o)
 simp only[show ((0:Nat):Int)=0 from rfl] at CPA
 unfold aC.val at CPA;have EP:=zq (show fV M (cu:Int) y 0 (pa:Int)=fV M (c p) (y,(0:Int)).1 0 p.ak from by rw[EF.o,HPN.o.1,HCU.o.1,HPA.o.1]);obtain⟨pm,pe,hpp⟩:∃ m e,fV M (cu:Int) y 0 (pa:Int)=(m,e):=⟨_,_,rfl⟩;rw[hpp] at CPA EP;have HPP:=zq hpp;clear hpp YI
 go_upto_region 16 with (fail)
 have FD:=zq I6.o.iQ.drew;obtain⟨WD,hWD⟩:=Zn w6.drew;rw[<-hWD] at FD;have LVM:=zq (iw FD.o.own.led);have CL:=zq (show ∀ W2,dS w R1 ((b9, 31,V'.cells M)::(bi, 66,#[.int .i64 i.kind,.int .i64 i.under,.int .i64 i.mult,.int .i64 i.strike,.int .i64 i.aN,.bool i.call,.int .i64 i.mark])::(bq, 50,#[.int .i64 (pa:Int),.int .i64 (pn:Int),.int .i64 pq])::[(b0, 31,C),(b0+1, 31,bF)]) V' M W2->(fun W2:World=>W2.heap[b9]?=some (.cells (V'.cells M) 31 (0,0))/\W2.cell? ⟨bq,0,none⟩=some (.int .i64 (pa:Int))) W2 from fun W2 F=>⟨F.at_.get 0 rfl,F.at_.cell 2 rfl 0 rfl⟩);have j0:∀ z:cO (fun W2:World=>W2.heap[b9]?=some (.cells (V'.cells M) 31 (0,0))/\W2.cell? ⟨bq,0,none⟩=some (.int .i64 (pa:Int))),z.w.cell? ⟨bq,0,none⟩=some (.int .i64 (pa:Int)):=fun z=>z.ok.2
 haveI ne:Nonempty (cO (fun W2:World=>W2.heap[b9]?=some (.cells (V'.cells M) 31 (0,0))/\W2.cell? ⟨bq,0,none⟩=some (.int .i64 (pa:Int)))):=⟨⟨WD,CL.o _ FD.o⟩⟩
 refine kM.aU (C:=fun k w'=>k=11\/∃ z:cO (fun W2:World=>W2.heap[b9]?=some (.cells (V'.cells M) 31 (0,0))/\W2.cell? ⟨bq,0,none⟩=some (.int .i64 (pa:Int))),w'=z.w) [4,8,12] [0,5,6,7,11] (.step 0 (.step 1 (.step 2 (.step 3 (.step 5 (.step 6 (.step 7 (.step 4 (.step 8 (.step 9 (.step 10 (.step 11 (.step 12 (.step 13 .leaf)))))))))))))) (fun _ _ _=>False) (by kernel_rfl) (fun _ _ _ h=>h.elim) (by kernel_rfl) (fun _=>Or.inr ⟨⟨w6.drew,by rw[<-hWD];exact CL.o _ FD.o⟩,rfl⟩) ?_;rw[<-hWD];clear hWD;refine kM.bK (fun w'=>∃ z:cO (fun W2:World=>W2.heap[b9]?=some (.cells (V'.cells M) 31 (0,0))/\W2.cell? ⟨bq,0,none⟩=some (.int .i64 (pa:Int))),w'=z.w) [0] (by kernel_rfl) (fun i hi w h=>h.resolve_left (by simp at hi;omega)) ?_
 simp only[au,nth]
 refine um (cs:=V'.cells M) (fun W ⟨z,hz⟩=>by rw[hz];exact z.ok.1) LVM.o rfl rfl rfl ?_;refine wpQuiet_nil ?_;go_simp;have q1:WD.cell? ⟨bq,1,none⟩=some (.int .i64 (pn:Int)):=FD.o.at_.cell 2 rfl 1 rfl;refine kM.aB [1,2,3] (by kernel_rfl) ?_
 simp only[au,nth]
 refine um (cs:=C) (fun W hW=>by rw[hW];exact FD.o.at_.get 3 rfl) LC.o rfl rfl rfl ?_;go_simp
 repeat (go_big_quiet_step (fail))
 refine wpQuiet_nil ?_;clear q1;refine kM.bK (fun w'=>∃ z:cO (fun W2:World=>W2.heap[b9]?=some (.cells (V'.cells M) 31 (0,0))/\W2.cell? ⟨bq,0,none⟩=some (.int .i64 (pa:Int))),w'=z.w) [5,6,7] (by kernel_rfl) (fun i hi w h=>h.resolve_left (by simp at hi;omega)) ?_
 simp only[au,nth]
 repeat (go_big_quiet_step (fail))
 refine wpQuiet_nil ?_;clear j0;refine kM.aK (by kernel_rfl) rfl (fun K hK=>?_)
 simp only[au,nth]
 refine ay ?_;go_simp;refine (CCU.o _ FD.o).mono ?_;rintro e w4 ⟨rfl,hb⟩;have F4:=zq (FD.o.go hb);clear hb;go_simp;refine hK _ _ (fun _ _=>Or.inr ⟨⟨_,CL.o _ F4.o⟩,rfl⟩) ?_;clear hK;refine kM.aK (by kernel_rfl) rfl (fun K hK=>?_)
 simp only[au,nth]
 refine ay ?_;go_simp;refine (CPA.o _ F4.o).mono ?_;rintro e w5 ⟨hb,ho⟩;have B5:=zq hb;have F5:=zq (F4.o.go hb);clear hb;rcases ho with ⟨hz,U,rfl,own⟩|⟨hz,rfl⟩;rotate_left
 ·have HZ:=zq hz
  try go_simp
  refine hK _ _ (fun _ _=>Or.inr ⟨⟨_,CL.o _ F5.o⟩,rfl⟩) ?_;clear hK hz;refine kM.aB [9,10] (by kernel_rfl) ?_
  simp only[au,nth]
  repeat (go_big_quiet_step (fail))
  refine wpQuiet_nil ?_;refine kM.bK (fun _=>True) [11] (by kernel_rfl) (fun _ _ _ _=>trivial) ?_
  simp only[au,nth]
  repeat (go_big_quiet_step (fail))
  refine wpQuiet_nil ?_;refine kM.zo (x:=11) (by kernel_rfl) rfl (by kernel_rfl) (fun K hK=>?_)
  simp only[au,nth]
  refine oz (F5.o.at_.get 0 rfl) LVM.o bI rfl rfl rfl ?_;refine hK _ _ (Or.inl rfl) ?_;clear hK;go_simp;refine kM.aB [13] (by kernel_rfl) ?_
  simp only[au,nth]
  repeat (go_big_quiet_step (fail))
  refine wpQuiet_nil ?_;refine kM.bG ?_;have XX:=zq (show At w (w5.setRow b9 bF) [(b0, 31,C),(b0+1, 31,bF)] from (F5.o.at_.setRow 0 rfl bF).sub (((List.sublist_cons_self _ _).trans (List.sublist_cons_self _ _)).trans (List.sublist_cons_self _ _)));obtain⟨w6,hw6⟩:=Zn (w5.setRow b9 bF);rw[<-hw6] at XX ⊢;clear hw6;have HZ1:=zq (show pe≠0 from HZ.o);have hz':(pe != 0)=true:=by rw[bne_iff_ne];exact HZ1.o
  have GO:=zq (show dD f c 0 L.aA L=(aI.none,pe) from by rw[<-I6.o.go,drop_at HP.o,qY SP.o rfl (by rw[<-EP.o];exact HZ1.o),<-EP.o]);clear F4 F5 B5
  go_wp2_with fail
  refine (gV pe _).mono ?_;rintro e w9 ⟨rfl,hb⟩;have XN:=zq (XX.o.go hb);clear hb
  go_wp2_with (refine aZ (cs:=bF) (XN.o.get 1 rfl) bI bI rfl rfl rfl rfl ?_)
  refine bodyPost_ret (bZ (cs:=bF) rfl _ _ (setRow_heap _ _ _ _ _ _ (XN.o.get 1 rfl)) bI rfl) rfl (by first|exact fU XN.o (k:=1) rfl (by have e:gX L (kk:Int) x=.no pe:=(by rw[ES.o,GO.o,if_neg HZ1.o]);rw[e,eF HG.o HZ1.o];rfl)|simpa using fU XN.o (k:=1) rfl (by have e:gX L (kk:Int) x=.no pe:=(by rw[ES.o,GO.o,if_neg HZ1.o]);rw[e,eF HG.o HZ1.o];rfl))
 have HZ:=zq hz;have LU:=zq (iw own.led);have OW:=zq own;unfold aC.val;clear hz own
 try go_simp
 refine hK _ _ (fun _ _=>Or.inr ⟨⟨_,CL.o _ F5.o⟩,rfl⟩) ?_;clear hK;refine kM.aB [9,10] (by kernel_rfl) ?_
 simp only[au,nth]
 repeat (go_big_quiet_step (fail))
 refine wpQuiet_nil ?_;refine kM.bK (fun _=>True) [11] (by kernel_rfl) (fun _ _ _ _=>trivial) ?_
 simp only[au,nth]
 repeat (go_big_quiet_step (fail))
 refine wpQuiet_nil ?_;refine kM.zo (x:=11) (by kernel_rfl) rfl (by kernel_rfl) (fun K hK=>?_)
 simp only[au,nth]
 refine oz (F5.o.at_.get 0 rfl) LVM.o LU.o rfl rfl rfl ?_;refine hK _ _ (Or.inl rfl) ?_;clear hK;go_simp;refine kM.aB [13] (by kernel_rfl) ?_
 simp only[au,nth]
 repeat (go_big_quiet_step (fail))
 refine wpQuiet_nil ?_;refine kM.bG ?_;have F6:=zq (F4.o.swap B5.o OW.o)
 try simp only at HZ
 have Z0:=zq (show pe=0 from HZ.o);have NX:=zq (show o9 w R1 b9 ((bi, 66,#[.int .i64 i.kind,.int .i64 i.under,.int .i64 i.mult,.int .i64 i.strike,.int .i64 i.aN,.bool i.call,.int .i64 i.mark])::(bq, 50,#[.int .i64 (pa:Int),.int .i64 (pn:Int),.int .i64 pq])::[(b0, 31,C),(b0+1, 31,bF)]) L L.aA f c 0 (k+1) U pm (w5.setRow b9 (U.cells pm)) from by
  have h:=I6.o.next HP.o SP.o rfl (by rw[<-EP.o];exact Z0.o) ⟨by decide,AC.o⟩ (by rw[HPA.o.1];have:=HPA.o.2;omega) (U:=U) (W2:=w5.setRow b9 (U.cells pm)) (cs:=(bi, 66,#[.int .i64 i.kind,.int .i64 i.under,.int .i64 i.mult,.int .i64 i.strike,.int .i64 i.aN,.bool i.call,.int .i64 i.mark])::(bq, 50,#[.int .i64 (pa:Int),.int .i64 (pn:Int),.int .i64 pq])::[(b0, 31,C),(b0+1, 31,bF)]) (by rw[<-EP.o];exact F6.o);rw[<-EP.o] at h;exact h)
 obtain⟨W7,hW7⟩:=Zn (w5.setRow b9 (U.cells pm));rw[<-hW7] at NX ⊢;have hz0:pe=0:=Z0.o;subst hz0;clear hW7 F4 F5 F6 B5 OW LU HZ Z0
 go_wp2_with fail
 go_roundw
 case rel=>exact⟨k+1,by have:=LT.o;omega,by go_num,_,rfl,zq ⟨U,pm,NX.o.less.less⟩⟩
 case measure=>have:=LT.o;simp[intOf];omega
end Go.Proofs.YtcepekniflaoaaaGreatDoor
