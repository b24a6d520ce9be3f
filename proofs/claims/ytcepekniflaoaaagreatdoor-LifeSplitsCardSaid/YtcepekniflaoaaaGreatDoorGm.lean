/- Joined: AdmP, AdmQ, AdmR, AdmS, AdmT, AdmU, AdmV, AdmW, LocP, LocD. -/
import Derived.Test.YtcepekniflaoaaaGreatDoorGb
set_option linter.unusedVariables false
set_option linter.unusedSimpArgs false
namespace Go.Bw
open Classical
structure yP where
 led:aH
 num:Int
 err:Int
def yP.no (e:Int):yP:=⟨⟨0,[],[],[],[],[],[],[],[]⟩,0,e⟩
def aH.acc (l:aH) (n:Int):Acc:=l.ai.getD n.toNat ⟨-1,[],false,0⟩
def Ins.noMark (i:Ins):Ins:={ i with mark:=0 }
def Ai (i:Ins) (u:dX) (day:Int):Int×Int :=
 if (0<=u.price/\u.price<=1000000000000)/\(0<=u.cZ/\u.cZ<=50000) then pK i u.price u.cZ day else (0,1)
theorem xQ {e:Int} (h:(yP.no e).err=0):e=0:=h
theorem getD_at {α:Type} (l:List α) (n:Nat) (d:α) (h:n<l.length):l[n]?=some (l.getD n d):=by
 rw[List.getD_eq_getElem?_getD,List.getElem?_eq_getElem h];rfl
theorem Oy {α:Type} {l:List α} {k:Nat} {x:α} {P:Nat->α->Prop} (h:∀ n u,l[n]?=some u->P n u) (hx:P k x):∀ n u,(l.set k x)[n]?=some u->P n u:=by
 intro n u hn;rw[List.getElem?_set] at hn;by_cases e:k=n
 ·subst e;rw[if_pos rfl] at hn;by_cases e2:k<l.length
  ·rw[if_pos e2] at hn;cases hn;exact hx
  rw[if_neg e2] at hn;cases hn
 rw[if_neg e] at hn;exact h n u hn
theorem uK {α β:Type} {f:α->β} {l l':List α} (h:l.map f=l'.map f) {n:Nat} {u:α} (hn:l[n]?=some u):∃ u',l'[n]?=some u'/\f u'=f u:=by
 have e:(l.map f)[n]?=some (f u):=by rw[List.getElem?_map,hn];rfl
 rw[h,List.getElem?_map] at e
 cases hl:l'[n]? with
 | none=>rw[hl] at e;cases e
 | some u'=>rw[hl] at e;exact⟨u',rfl,by simpa using e⟩
theorem rM {α β:Type} (f:α->β) (l:List α) (k:Nat) (d x:α) (hk:k<l.length) (h:f x=f (l.getD k d)):(l.set k x).map f=l.map f:=by
 apply List.ext_getElem?
 intro n;rw[List.getElem?_map,List.getElem?_map,List.getElem?_set];by_cases e:k=n
 ·subst e;rw[if_pos rfl,if_pos hk,getD_at l k d hk];simp[h]
 rw[if_neg e]
end Go.Bw
