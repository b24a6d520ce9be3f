/- Joined: AloP, AloQ, AloM. -/
import Derived.Test.YtnkpdfjnjmmleaaGreatDoorAdmZ
import Derived.Test.YtnkpdfjnjmmleaaGreatDoorGm
import Derived.Test.YtnkpdfjnjmmleaaGreatDoorHa
import Derived.Test.YtnkpdfjnjmmleaaGreatDoorGn
set_option linter.unusedVariables false
set_option linter.unusedSimpArgs false
namespace Go.Bw
open Classical
structure UF (A F:List Acc) (k:Nat) (B:List Acc):Prop where
 len:B.length=A.length
 low:∀ (i:Nat) a f b,i<k -> A[i]?=some a -> F[i]?=some f -> B[i]?=some b -> b={ a with flag:=f.flag }
 high:∀ (i:Nat),k <= i -> B[i]?=A[i]?
theorem UF.start (A F:List Acc):UF A F 0 A:=⟨rfl,fun i a f b h=>absurd h (Nat.not_lt_zero _),fun i _=>rfl⟩
theorem UF.next {A F B:List Acc} {k:Nat} {b f:Acc} (h:UF A F k B) (hb:B[k]?=some b) (hf:F[k]?=some f):UF A F (k+1) (B.set k { b with flag:=f.flag }):=by
 have hkl:=(List.getElem?_eq_some_iff.1 hb).1
 refine⟨by rw[List.length_set];exact h.len,fun i a g c hi ha hg hc=>?_,fun i hi=>?_⟩
 ·by_cases e:i=k
  ·subst e
   rw[List.getElem?_set_self hkl] at hc
   rw[h.high i (Nat.le_refl _),ha] at hb
   rw[hf] at hg
   cases hb;cases hg;cases hc;rfl
  ·rw[List.getElem?_set_ne (fun h=>e h.symm)] at hc
   exact h.low i a g c (by omega) ha hg hc
 ·rw[List.getElem?_set_ne (by omega)]
  exact h.high i (by omega)
theorem admS_flag {L:Led} {k:Nat} {A B C:Int} {u:Und} {i:Ins} (he:(admS L k A B C u i).err=0) {v:Nat} {p q:Acc} (hp:L.accts[v]?=some p) (hq:(admS L k A B C u i).led.accts[v]?=some q):q.flag=p.flag:=by
 have same:∀ {l:Led},l.accts=L.accts -> l.accts[v]?=some q -> q.flag=p.flag:=fun e h=>by rw[e,hp] at h;cases h;rfl
 match k,he,hq with
 | 0,he,hq =>
   have he:(priceS L A B C).err=0:=he
   have hq:(priceS L A B C).led.accts[v]?=some q:=hq
   refine same ?_ hq
   unfold priceS at he ⊢
   split <;> (try split) <;> first|rfl|(exfalso;simp_all [Adm.no];done)|(simp[Adm.no] at he)
 | 1,he,hq =>
   have he:(rateS L A B C).err=0:=he
   have hq:(rateS L A B C).led.accts[v]?=some q:=hq
   by_cases h:A<L.curs.length
   ·refine same ?_ hq
    unfold rateS at he ⊢
    rw[if_pos h] at he ⊢
    split
    ·rfl
    ·rename_i h1;rw[if_neg h1] at he;exact absurd (no_err he) (by decide)
   ·rw[(rateS_new h he).2.2] at hq
    simp only[Led.newCur,List.getElem?_map,hp,Option.map_some] at hq
    cases hq;rfl
 | 2,he,hq =>
   have he:(cashS L A B C).err=0:=he
   have hq:(cashS L A B C).led.accts[v]?=some q:=hq
   unfold cashS at he hq
   by_cases h1:0 <= A /\ A<L.accts.length
   ·rw[if_pos h1] at he hq
    by_cases h2:0 <= B /\ B<L.curs.length
    ·rw[if_pos h2] at he hq
     by_cases h3:(cashA L A B C).2=0
     ·rw[if_pos h3] at hq
      by_cases e:A.toNat=v
      ·subst e
       simp only at hq
       rw[List.getElem?_set_self (List.getElem?_eq_some_iff.1 hp).1] at hq
       cases hq
       show (L.acc A).flag=p.flag
       unfold Led.acc
       rw[List.getD_eq_getElem?_getD,hp];rfl
      ·simp only at hq
       rw[List.getElem?_set_ne e,hp] at hq
       cases hq;rfl
     ·rw[if_neg h3] at he;exact absurd (no_err he) h3
    ·rw[if_neg h2] at he;exact absurd (no_err he) (by decide)
   ·rw[if_neg h1] at he;exact absurd (no_err he) (by decide)
 | 3,he,hq =>
   have he:(accountS L A).err=0:=he
   have hq:(accountS L A).led.accts[v]?=some q:=hq
   rw[accountS_ok he] at hq
   simp only[Led.newAcc] at hq
   rw[List.getElem?_append_left (List.getElem?_eq_some_iff.1 hp).1,hp] at hq
   cases hq;rfl
 | 4,he,hq =>
   have hq:(underS L u).led.accts[v]?=some q:=hq
   rw[(underS_ok he).2] at hq
   exact same rfl hq
 | 5,he,hq =>
   have hq:(instrS L i).led.accts[v]?=some q:=hq
   rw[instrS_ok he] at hq
   exact same rfl hq
 | 6,he,hq =>
   have hq:(supplyS L A B).led.accts[v]?=some q:=hq
   obtain⟨az,e⟩:=supplyS_ok he
   rw[e] at hq
   exact same rfl hq
 | k+7,he,hq =>
   have hq:(reserveS L A B C).led.accts[v]?=some q:=hq
   obtain⟨az,pz,e⟩:=reserveS_ok he
   rw[e] at hq
   exact same rfl hq
theorem unflagged {L N M:Led} {B:List Acc} (h:flagsO N=some M) (hl:L.accts.length <= N.accts.length) (hf:∀ (v:Nat) p q,L.accts[v]?=some p -> N.accts[v]?=some q -> q.flag=p.flag) (u:UF M.accts L.accts L.accts.length B) :
 B.length=N.accts.length /\ ∀ v,v<L.accts.length -> B[v]?=N.accts[v]?:=by
 obtain⟨h1,h2,h3⟩:=flagsO_only h
 refine⟨by rw[u.len,h2],fun v hv=>?_⟩
 have e1:=List.getElem?_eq_getElem (l:=N.accts) (i:=v) (by omega)
 have e2:=List.getElem?_eq_getElem (l:=M.accts) (i:=v) (by omega)
 have e3:=List.getElem?_eq_getElem (l:=L.accts) (i:=v) hv
 have e4:=List.getElem?_eq_getElem (l:=B) (i:=v) (by rw[u.len];omega)
 have h4:=u.low v _ _ _ hv e2 e3 e4
 have h5:=h3 v _ _ e1 e2
 have h6:=hf v _ _ e3 e1
 rw[e4,e1,h4,<- h6,h5]
theorem unflagged_all {L N M:Led} {B:List Acc} (h:flagsO N=some M) (hl:N.accts.length=L.accts.length) (hf:∀ (v:Nat) p q,L.accts[v]?=some p -> N.accts[v]?=some q -> q.flag=p.flag) (u:UF M.accts L.accts L.accts.length B):({ M with accts:=B }:Led)=N:=by
 obtain⟨h1,h2⟩:=unflagged h (by omega) hf u
 have e:B=N.accts:=List.ext_getElem? fun v=>by
  by_cases hv:v<L.accts.length
  ·exact h2 v hv
  ·rw[List.getElem?_eq_none (by omega),List.getElem?_eq_none (by omega)]
 rw[e,(flagsO_only h).1]
structure CU (A:List Acc) (k:Nat) (B:List Acc):Prop where
 len:B.length=A.length
 low:∀ (i:Nat),i<k -> B[i]?=A[i]?
 high:∀ (i:Nat),k <= i -> B[i]?=(A[i]?).map fun a=>{ a with cash:=a.cash++[0] }
theorem CU.start (A:List Acc):CU A 0 (A.map fun a=>{ a with cash:=a.cash++[0] }):=⟨by simp,fun i h=>absurd h (Nat.not_lt_zero _),fun i _=>List.getElem?_map⟩
theorem CU.next {A B:List Acc} {k:Nat} {a:Acc} (h:CU A k B) (ha:A[k]?=some a):CU A (k+1) (B.set k a):=by
 have hk:=(List.getElem?_eq_some_iff.1 ha).1
 refine⟨by rw[List.length_set];exact h.len,fun i hi=>?_,fun i hi=>?_⟩
 ·by_cases e:k=i
  ·subst e;rw[List.getElem?_set_self (by rw[h.len];exact hk),ha]
  ·rw[List.getElem?_set_ne e];exact h.low i (by omega)
 ·rw[List.getElem?_set_ne (by omega)];exact h.high i (by omega)
theorem CU.done {A B:List Acc} {k:Nat} (h:CU A k B) (hk:A.length <= k):B=A:=List.ext_getElem? fun i=>by
 by_cases hi:i<k
 ·exact h.low i hi
 ·rw[List.getElem?_eq_none (by rw[h.len];omega),List.getElem?_eq_none (by omega)]
theorem set_same_at {α:Type} {l:List α} {m:Nat} {x:α} (h:l[m]?=some x):l.set m x=l:=by
 apply List.ext_getElem?
 intro v
 by_cases e:m=v
 ·subst e;rw[List.getElem?_set_self (List.getElem?_eq_some_iff.1 h).1,h]
 ·rw[List.getElem?_set_ne e]
theorem price_form {L:Led} {A B C:Int} (he:(priceS L A B C).err=0):∃ m:Nat,A=m /\ ∃ x,L.unders[m]?=some x /\ (priceS L A B C).led={ L with unders:=L.unders.set m { x with price:=B,vol:=C } }:=by
 unfold priceS at he ⊢
 by_cases h1:0 <= A /\ A<L.unders.length
 ·rw[if_pos h1] at he ⊢
  by_cases h2:Und.Ok { L.und A with price:=B,vol:=C } L.curs.length
  ·rw[if_pos h2]
   have hx:=List.getElem?_eq_getElem (l:=L.unders) (i:=A.toNat) (by omega)
   refine⟨A.toNat,by omega,_,hx,?_⟩
   have e:L.und A=L.unders[A.toNat]'(by omega):=by unfold Led.und;rw[List.getD_eq_getElem?_getD,hx];rfl
   simp only[e]
  ·rw[if_neg h2] at he;exact absurd (no_err he) (by decide)
 ·rw[if_neg h1] at he;exact absurd (no_err he) (by decide)
theorem rate_old {L:Led} {A B C:Int} (hc:A<L.curs.length) (he:(rateS L A B C).err=0):∃ m:Nat,A=m /\ ∃ x,L.curs[m]?=some x /\ (rateS L A B C).led={ L with curs:=L.curs.set m ⟨B,C⟩ }:=by
 unfold rateS at he ⊢
 rw[if_pos hc] at he ⊢
 split
 ·rename_i h1
  exact⟨A.toNat,by omega,_,List.getElem?_eq_getElem (l:=L.curs) (i:=A.toNat) (by omega),rfl⟩
 ·rename_i h1;rw[if_neg h1] at he;exact absurd (no_err he) (by decide)
theorem cash_form {L:Led} {A B C:Int} (hG:L.Good) (he:(cashS L A B C).err=0):∃ m n:Nat,A=m /\ B=n /\ ∃ (a:Acc) (y:Int),L.accts[m]?=some a /\ a.cash[n]?=some y /\ (cashS L A B C).led={ L with accts:=L.accts.set m { a with cash:=a.cash.set n (y+C) } }:=by
 unfold cashS at he ⊢
 by_cases h1:0 <= A /\ A<L.accts.length
 ·rw[if_pos h1] at he ⊢
  by_cases h2:0 <= B /\ B<L.curs.length
  ·rw[if_pos h2] at he ⊢
   by_cases h3:(cashA L A B C).2=0
   ·rw[if_pos h3]
    have hx:=List.getElem?_eq_getElem (l:=L.accts) (i:=A.toNat) (by omega)
    have ha:=(hG.accounts.accts A.toNat _ hx).1
    have hy:=List.getElem?_eq_getElem (l:=(L.accts[A.toNat]'(by omega)).cash) (i:=B.toNat) (by omega)
    have e:L.acc A=L.accts[A.toNat]'(by omega):=by unfold Led.acc;rw[List.getD_eq_getElem?_getD,hx];rfl
    refine⟨A.toNat,B.toNat,by omega,by omega,_,_,hx,hy,?_⟩
    have e2:(cashA L A B C).1=((L.accts[A.toNat]'(by omega)).cash[B.toNat]'(by omega))+C:=by
     have e3:cashA L A B C=addA ((L.accts[A.toNat]'(by omega)).cash[B.toNat]'(by omega)) C:=by
      unfold cashA
      rw[e,List.getD_eq_getElem?_getD,hy];rfl
     rw[e3] at h3 ⊢
     unfold addA at h3 ⊢
     split
     ·rfl
     ·rename_i h;rw[if_neg h] at h3;exact absurd h3 (by decide)
    simp only[e,e2]
   ·rw[if_neg h3] at he;exact absurd (no_err he) h3
  ·rw[if_neg h2] at he;exact absurd (no_err he) (by decide)
 ·rw[if_neg h1] at he;exact absurd (no_err he) (by decide)
theorem supply_form {L:Led} {A B:Int} (he:(supplyS L A B).err=0):∃ m:Nat,A=m /\ ∃ y:Int,L.avail[m]?=some y /\ (-1000000000 <= B /\ B <= 1000000000) /\ (supplyS L A B).led={ L with avail:=L.avail.set m (y+B) }:=by
 unfold supplyS at he ⊢
 by_cases h1:(supplyA L.avail A B).2=0
 ·rw[if_pos h1]
  obtain⟨a1,a2,a3,a4,e⟩:=supplyA_ok h1
  have hx:=List.getElem?_eq_getElem (l:=L.avail) (i:=A.toNat) (by omega)
  refine⟨A.toNat,by omega,_,hx,?_,?_⟩
  ·unfold supplyA at h1
   rw[if_pos ⟨a1,a2⟩] at h1
   split at h1
   ·rename_i h;exact h.1
   ·exact absurd h1 (by decide)
  ·simp only[e]
   rw[List.getD_eq_getElem?_getD,hx];rfl
 ·rw[if_neg h1] at he;exact absurd (no_err he) h1
theorem reserve_form {L:Led} {A B C:Int} (he:(reserveS L A B C).err=0):∃ m:Nat,B=m /\ ∃ (y:Int) (ps:List Pos),L.avail[m]?=some y /\ (-1000000000 <= C /\ C <= 1000000000) /\ (reserveS L A B C).led={ L with avail:=L.avail.set m (y - C),locs:=ps }:=by
 unfold reserveS at he ⊢
 by_cases h0:2 <= A /\ A<L.accts.length
 ·rw[if_pos h0] at he ⊢
  by_cases h1:(reserveA L.avail L.locs A B C).2.2=0
  ·rw[if_pos h1]
   obtain⟨a1,a2,a3,a4,e⟩:=reserveA_ok h1
   have hx:=List.getElem?_eq_getElem (l:=L.avail) (i:=B.toNat) (by omega)
   have e1:(reserveA L.avail L.locs A B C).1=L.avail.set B.toNat ((L.avail[B.toNat]'(by omega)) - C):=by
    rw[e]
    simp only
    rw[List.getD_eq_getElem?_getD,hx];rfl
   refine⟨B.toNat,by omega,_,(reserveA L.avail L.locs A B C).2.1,hx,?_,by rw[e1]⟩
   ·unfold reserveA at h1
    rw[if_pos a1] at h1
    split at h1
    ·rename_i h;exact h.1
    ·exact absurd h1 (by decide)
  ·rw[if_neg h1] at he;exact absurd (no_err he) h1
 ·rw[if_neg h0] at he;exact absurd (no_err he) (by decide)
end Go.Bw
namespace Go.Bw
open Go.RowKit
theorem RowOf.cut {α:Type} {w:World} {n:Nat} {f:α -> List Value} {a:Option Addr} {m c k:Nat} {l:List α} (h:RowOf w n f (.slice a m c) l) (hk:k <= l.length):RowOf w n f (.slice a k c) (l.take k):=by
 obtain⟨a',c',e,h1,h2,h3,h4⟩:=h.ex
 injection e with e1 e2 e3
 subst e1;subst e3
 have hl:(l.take k).length=k:=by rw[List.length_take,Nat.min_eq_left hk]
 refine⟨a,c,by rw[hl],by omega,h2,h3,fun i x hi=>h4 i x ?_⟩
 rw[List.getElem?_take] at hi
 split at hi
 ·exact hi
 ·cases hi
theorem OwnOf.cut {α:Type} {w:World} {B n:Nat} {e:TypeId} {f:α -> List Value} {a:Option Addr} {m c k:Nat} {l:List α} (hf:∀ x,(f x).length=n) (h:OwnOf w B e n f (.slice a m c) l) (hk:k <= l.length):OwnOf w B e n f (.slice a k c) (l.take k):=by
 have hl:(l.take k).length=k:=by rw[List.length_take,Nat.min_eq_left hk]
 rcases Nat.eq_zero_or_pos l.length with h0|h0
 ·obtain⟨a',c',ev,_⟩:=h.form
  injection ev with e1 e2 e3
  have:k=m:=by omega
  subst this
  have:l.take k=l:=List.take_of_length_le (by omega)
  rw[this];exact h
 ·obtain⟨g,cap,cur,ev,hB,hg,h1,h2,h3,h4⟩:=h.parts h0
  injection ev with e1 e2 e3
  subst e1;subst e3
  have:=own_of_cur (l:=l.take k) (B:=B) hf hg hB (by omega) h2 h3 (by rw[hl];exact cur_take hf h4 hk)
  rwa [hl] at this
variable {w W W':World} {R0 g c k:Nat} {bs cs:List (Nat×TypeId×Array Value)} {V:LedV} {l:Led} {p:Acc×Value}
theorem FBs.sub (h:FBs w R0 bs V l W) (hs:cs.Sublist bs):FBs w R0 cs V l W:=⟨h.at_.sub hs,h.own,fun x hx=>h.nin x (hs.subset hx),h.rb,h.lo⟩
theorem acct_cells (h:LedOwn W R0 V l) (hv:V.accts=.slice (some ⟨g,0,none⟩) V.ac.length c) (hk:V.ac[k]?=some p):(∀ (j:Nat) u,(Acc.cells p)[j]?=some u -> W.cell? ⟨g,k*4+j,none⟩=some u) /\ ∀ j,W.frozen? ⟨g,j,none⟩=false:=by
 obtain⟨g',c',e,_,_,h1,h2⟩:=h.accts.slot acccells_len (by decide) hk
 rw[hv] at e
 injection e with e _ _
 cases e
 exact⟨h1,h2⟩
theorem FBs.storeFlag (F:FBs w R0 bs V l W) (hv:V.accts=.slice (some ⟨g,0,none⟩) V.ac.length c) (hk:V.ac[k]?=some p) (f:Bool) :
 FBs w R0 bs { V with ac:=V.ac.set k ({ p.1 with flag:=f },p.2) } { l with accts:=l.accts.set k { p.1 with flag:=f } } ((((W.setCell ⟨g,k*4,none⟩ (.int .i64 p.1.parent)).setCell ⟨g,k*4+1,none⟩ p.2).setCell ⟨g,k*4+2,none⟩ (.bool f)).setCell ⟨g,k*4+3,none⟩ (.int .i64 p.1.last)):=by
 obtain⟨hc,_⟩:=acct_cells F.own hv hk
 have e0:W.setCell ⟨g,k*4,none⟩ (.int .i64 p.1.parent)=W:=setCell_held (hc 0 _ rfl)
 have e1:W.setCell ⟨g,k*4+1,none⟩ p.2=W:=setCell_held (hc 1 _ rfl)
 rw[e0,e1]
 have c3:(W.setCell ⟨g,k*4+2,none⟩ (.bool f)).cell? ⟨g,k*4+3,none⟩=some (.int .i64 p.1.last):=by
  rw[World.cell?_setCell_other _ _ _ _ (by simp)]
  exact hc 3 _ rfl
 rw[setCell_held c3]
 have S:=F.own.acct hv (k:=k) (j:=2) (u:=.bool f) (p:=p) (p':=({ p.1 with flag:=f },p.2)) hk (by decide) rfl rfl rfl
 refine F.row S.1 S.2 (q:=3) rfl (by rw[hv];rfl) ?_
 simp only[LedV.rows]
 rw[map_set_same (fun q:Acc×Value=>q.2) (x':=({ p.1 with flag:=f },p.2)) hk rfl]
theorem FBs.storeCash (F:FBs w R0 bs V l W) (hv:V.accts=.slice (some ⟨g,0,none⟩) V.ac.length c) (hk:V.ac[k]?=some p) {a:Option Addr} {m q j:Nat} (hp:p.2=.slice a m q) (hj:j <= p.1.cash.length) :
 FBs w R0 bs { V with ac:=V.ac.set k ({ p.1 with cash:=p.1.cash.take j },.slice a j q) } { l with accts:=l.accts.set k { p.1 with cash:=p.1.cash.take j } } ((((W.setCell ⟨g,k*4,none⟩ (.int .i64 p.1.parent)).setCell ⟨g,k*4+1,none⟩ (.slice a j q)).setCell ⟨g,k*4+2,none⟩ (.bool p.1.flag)).setCell ⟨g,k*4+3,none⟩ (.int .i64 p.1.last)):=by
 obtain⟨hc,_⟩:=acct_cells F.own hv hk
 have e0:W.setCell ⟨g,k*4,none⟩ (.int .i64 p.1.parent)=W:=setCell_held (hc 0 _ rfl)
 rw[e0]
 have c2:(W.setCell ⟨g,k*4+1,none⟩ (.slice a j q)).cell? ⟨g,k*4+2,none⟩=some (.bool p.1.flag):=by
  rw[World.cell?_setCell_other _ _ _ _ (by simp)]
  exact hc 2 _ rfl
 have c3:(W.setCell ⟨g,k*4+1,none⟩ (.slice a j q)).cell? ⟨g,k*4+3,none⟩=some (.int .i64 p.1.last):=by
  rw[World.cell?_setCell_other _ _ _ _ (by simp)]
  exact hc 3 _ rfl
 rw[setCell_held c2,setCell_held c3]
 have hm:=List.mem_of_getElem? hk
 have oc:=F.own.cash p hm
 rw[hp] at oc
 have hmem:V.rows[k+8]?=some p.2:=rows_cash hk
 have eb:(Value.slice a j q).ownBlock=(Value.slice a m q).ownBlock:=by cases a <;> rfl
 have S:=F.own.acctCash hv (k:=k) (p:=p) (u:=.slice a j q) (cash:=p.1.cash.take j) hk (oc.cut icell_len hj) (fun i x hi hx b hb hb2=>rows_apart F.own.sep hi hx hmem b hb (by rw[hp,<- eb];exact hb2))
  (fun x hx=>F.own.nums p.1 (by rw[F.own.same];exact List.mem_map_of_mem hm) x (List.mem_of_mem_take hx))
 have hgb:V.accts.ownBlock=some g:=by rw[hv];rfl
 have hx:=List.mem_of_getElem? (l:=V.rows) (i:=3) (a:=V.accts) rfl
 have hl:=F.own.lts V.accts hx g hgb
 have hlo:=F.lo
 refine⟨F.at_.mod S.2 (fun j e=>by omega) (fun z hz e=>F.nin z hz V.accts hx (by rw[hgb,e])),S.1,fun z hz x hxx=>?_,Nat.le_trans F.rb S.2.size,F.lo⟩
 have e:({ V with ac:=V.ac.set k ({ p.1 with cash:=p.1.cash.take j },.slice a j q) }:LedV).rows=V.rows.set (k+8) (.slice a j q):=by
  simp only[LedV.rows,List.map_set,List.set_cons_succ]
 rw[e] at hxx
 rcases List.mem_or_eq_of_mem_set hxx with h1|h1
 ·exact F.nin z hz x h1
 ·rw[h1]
  have:=F.nin z hz p.2 (List.mem_of_getElem? hmem)
  rw[hp] at this
  rw[eb];exact this
theorem FBs.cutCurs (F:FBs w R0 bs V l W) {a:Option Addr} {m q j:Nat} (hv:V.curs=.slice a m q) (hj:j <= l.curs.length):FBs w R0 bs { V with curs:=.slice a j q } { l with curs:=l.curs.take j } W:=by
 have eb:(Value.slice a j q).ownBlock=(Value.slice a m q).ownBlock:=by cases a <;> rfl
 have hr:({ V with curs:=.slice a j q }:LedV).rows=V.rows.set 0 (.slice a j q):=rfl
 have h0:V.rows[0]?=some V.curs:=rfl
 have oc:=F.own.curs
 rw[hv] at oc
 refine⟨F.at_,⟨oc.cut curcells_len hj,F.own.unders,F.own.instrs,F.own.same,F.own.accts,F.own.cash,F.own.poss,F.own.orders,F.own.avail,F.own.locs,?_,F.own.names,F.own.nums⟩,fun z hz x hx=>?_,F.rb,F.lo⟩
 ·rw[hr,List.pairwise_iff_getElem]
  intro i k hi hk hik
  rw[List.length_set] at hi hk
  rw[List.getElem_set,List.getElem_set]
  have key:∀ n (hn:n<V.rows.length),n≠0 -> ApartV V.rows[n] (.slice a j q):=fun n hn hne b h1 h2=>rows_apart F.own.sep hne (List.getElem?_eq_getElem hn) h0 b h1 (by rw[hv,<- eb];exact h2)
  by_cases e1:0=i
  ·rw[if_pos e1,if_neg (by omega)]
   exact (key k hk (by omega)).symm
  ·rw[if_neg e1,if_neg (by omega)]
   exact List.pairwise_iff_getElem.1 F.own.sep i k hi hk hik
 ·rw[hr] at hx
  rcases List.mem_or_eq_of_mem_set hx with h1|h1
  ·exact F.nin z hz x h1
  ·rw[h1,eb,<- hv]
   exact F.nin z hz V.curs (List.mem_of_getElem? h0)
end Go.Bw
