/- What is reserved of an instrument for an account: the program's Held and the document's (printed by tools/gen_held.py). -/
import Derived.Test.YtnkpdfjnjmmleaaGreatDoorGm
import Derived.Test.YtnkpdfjnjmmleaaGreatDoorGj
import Derived.Test.YtnkpdfjnjmmleaaGreatDoorGl
import Derived.Test.YtnkpdfjnjmmleaaGreatDoorAdmC
set_option linter.unusedVariables false
set_option linter.unusedSimpArgs false
set_option maxRecDepth 100000
set_option maxHeartbeats 3000000
namespace Go.Bw
theorem heldL_at {a i:Int}:∀ {l:List Pos} {k:Nat} {x:Pos},(∀ (j:Nat) y,j<k -> l[j]?=some y -> ¬ (y.acct=a /\ y.instr=i)) -> l[k]?=some x -> x.acct=a /\ x.instr=i -> heldL l a i=x.qty
 | [],_,_,_,h,_=>by simp at h
 | y::r,0,x,_,h,e=>by
   simp at h
   subst h
   simp[heldL,e]
 | y::r,k+1,x,hp,h,e=>by
   have h0:=hp 0 y (by omega) rfl
   have:=heldL_at (l:=r) (k:=k) (x:=x) (fun j z hj hz=>hp (j+1) z (by omega) (by simpa using hz)) (by simpa using h) e
   unfold heldL
   rw[if_neg h0]
   exact this
theorem heldL_no {a i:Int}:∀ {l:List Pos},(∀ y∈l,¬ (y.acct=a /\ y.instr=i)) -> heldL l a i=0
 | [],_=>rfl
 | y::r,h=>by
   unfold heldL
   rw[if_neg (h y (by simp))]
   exact heldL_no fun z hz=>h z (by simp[hz])
end Go.Bw
namespace Go.Proofs.YtnkpdfjnjmmleaaGreatDoor
open Go.RowKit Go.Bw Go.Maps Go.Shelf Go.Bw.Fall
theorem held_any (w:World) (v:Value) (l:List Pos) (hR:RowOf w 3 Pos.cells v l) (hl:l.length <= 1024) (a i:Int) :
 Calls Tryz.prog 72 #[v,.int .i64 a,.int .i64 i] w fun e w'=>e=.returned (.int .i64 (heldL l a i)) /\ Below w.heap.size w w':=by
 obtain⟨va,vc,rfl⟩:=hR.form
 obtain⟨n,hn⟩:∃ n,n=l.length:=⟨_,rfl⟩
 have HR:=zq hR
 rw[<- hn] at hl HR ⊢
 have HN:=zq hn
 clear hR hn
 go_enter Tryz.func72,Tryz.ntmps72
 go_wp2_with fail
 obtain⟨wo,hwo⟩:∃ wo,wo=w:=⟨_,rfl⟩
 go_loopw [11] (fun j wr=>∃ k:Nat,k <= n /\ j=.int .i64 k /\ Hid (∀ (j:Nat) y,j<k -> l[j]?=some y -> ¬ (y.acct=a /\ y.instr=i)) /\ Below w.heap.size w wr) (fun j _=>n - (intOf j).toNat)
 case atStart=>exact⟨0,Nat.zero_le _,rfl,zq fun j y hj=>by omega,Below.refl _ _⟩
 case round =>
  obtain⟨k,hk,rfl,IV,hb⟩:=hrel
  have BW:=zq hb
  have ROW:=zq (HR.o.below hb)
  clear hb
  by_cases hlt:k<n
  ·have hlt':(k:Int)<(n:Int):=by omega
   have LT:=zq hlt
   obtain⟨x,hx⟩:∃ x,l[k]?=some x:=⟨_,List.getElem?_eq_getElem (by rw[<- HN.o];exact hlt)⟩
   obtain⟨b,o,e',_,hc⟩:=ROW.o.at_ hx
   have hc0:=hc 0 (.int .i64 x.acct) rfl
   have hc1:=hc 1 (.int .i64 x.instr) rfl
   have hc2:=hc 2 (.int .i64 x.qty) rfl
   rw[Nat.add_zero] at hc0
   cases e'
   have HX:=zq hx
   have B2:=zq (fun o=>BW.o.alloc BW.o.size o)
   have NXT:=zq (show ¬ (x.acct=a /\ x.instr=i) -> ∀ (j:Nat) y,j<k+1 -> l[j]?=some y -> ¬ (y.acct=a /\ y.instr=i) from fun hn j y hj hy=>by
    by_cases e:j=k
    ·subst e;rw[HX.o] at hy;cases hy;exact hn
    ·exact IV.o j y (by omega) hy)
   clear hx hc
   by_cases ha:x.acct=a
   ·by_cases hi:x.instr=i
    ·have RES:=zq (heldL_at IV.o HX.o ⟨ha,hi⟩)
     go_wp2_with fail
     go_ret
     exact⟨by rw[RES.o];rfl,by first|exact B2.o _|exact below_drewN (B2.o _) _⟩
    ·have NX:=zq (NXT.o fun h=>hi h.2)
     go_wp2_with fail
     go_roundw
     case rel=>exact⟨k+1,by have:=LT.o;omega,by go_num,NX,by first|exact B2.o _|exact below_drewN (B2.o _) _⟩
     case measure=>have:=LT.o;simp[intOf];omega
   ·have NX:=zq (NXT.o fun h=>ha h.1)
    go_wp2_with fail
    go_roundw
    case rel=>exact⟨k+1,by have:=LT.o;omega,by go_num,NX,by first|exact B2.o _|exact below_drewN (B2.o _) _⟩
    case measure=>have:=LT.o;simp[intOf];omega
  ·have hlt':¬ (k:Int)<(n:Int):=by omega
   have RES:=zq (show heldL l a i=0 from heldL_no fun y hy=>by
    obtain⟨j,hj,e⟩:=List.mem_iff_getElem.1 hy
    exact IV.o j y (by have:=HN.o;omega) (by rw[<- e];exact List.getElem?_eq_getElem hj))
   have B2:=zq BW.o
   go_wp2_with fail
   go_ret
   exact⟨by rw[RES.o];rfl,by first|exact B2.o|exact below_drewN B2.o _⟩
theorem rheld_any (w:World) (v:Value) (l:List Pos) (hR:RowOf w 3 Pos.cells v l) (hl:l.length <= 1024) (a i:Int) :
 Calls Tryz.prog 74 #[v,.int .i64 a,.int .i64 i] w fun e w'=>e=.returned (.int .i64 (heldL l a i)) /\ Below w.heap.size w w':=by
 obtain⟨va,vc,rfl⟩:=hR.form
 obtain⟨n,hn⟩:∃ n,n=l.length:=⟨_,rfl⟩
 have HR:=zq hR
 rw[<- hn] at hl HR ⊢
 have HN:=zq hn
 clear hR hn
 go_enter Tryz.func74,Tryz.ntmps74
 go_wp2_with fail
 obtain⟨wo,hwo⟩:∃ wo,wo=w:=⟨_,rfl⟩
 go_loopw [11] (fun j wr=>∃ k:Nat,k <= n /\ j=.int .i64 k /\ Hid (∀ (j:Nat) y,j<k -> l[j]?=some y -> ¬ (y.acct=a /\ y.instr=i)) /\ Below w.heap.size w wr) (fun j _=>n - (intOf j).toNat)
 case atStart=>exact⟨0,Nat.zero_le _,rfl,zq fun j y hj=>by omega,Below.refl _ _⟩
 case round =>
  obtain⟨k,hk,rfl,IV,hb⟩:=hrel
  have BW:=zq hb
  have ROW:=zq (HR.o.below hb)
  clear hb
  by_cases hlt:k<n
  ·have hlt':(k:Int)<(n:Int):=by omega
   have LT:=zq hlt
   obtain⟨x,hx⟩:∃ x,l[k]?=some x:=⟨_,List.getElem?_eq_getElem (by rw[<- HN.o];exact hlt)⟩
   obtain⟨b,o,e',_,hc⟩:=ROW.o.at_ hx
   have hc0:=hc 0 (.int .i64 x.acct) rfl
   have hc1:=hc 1 (.int .i64 x.instr) rfl
   have hc2:=hc 2 (.int .i64 x.qty) rfl
   rw[Nat.add_zero] at hc0
   cases e'
   have HX:=zq hx
   have B2:=zq (fun o=>BW.o.alloc BW.o.size o)
   have NXT:=zq (show ¬ (x.acct=a /\ x.instr=i) -> ∀ (j:Nat) y,j<k+1 -> l[j]?=some y -> ¬ (y.acct=a /\ y.instr=i) from fun hn j y hj hy=>by
    by_cases e:j=k
    ·subst e;rw[HX.o] at hy;cases hy;exact hn
    ·exact IV.o j y (by omega) hy)
   clear hx hc
   by_cases ha:x.acct=a
   ·by_cases hi:x.instr=i
    ·have RES:=zq (heldL_at IV.o HX.o ⟨ha,hi⟩)
     go_wp2_with fail
     go_ret
     exact⟨by rw[RES.o];rfl,by first|exact B2.o _|exact below_drewN (B2.o _) _⟩
    ·have NX:=zq (NXT.o fun h=>hi h.2)
     go_wp2_with fail
     go_roundw
     case rel=>exact⟨k+1,by have:=LT.o;omega,by go_num,NX,by first|exact B2.o _|exact below_drewN (B2.o _) _⟩
     case measure=>have:=LT.o;simp[intOf];omega
   ·have NX:=zq (NXT.o fun h=>ha h.1)
    go_wp2_with fail
    go_roundw
    case rel=>exact⟨k+1,by have:=LT.o;omega,by go_num,NX,by first|exact B2.o _|exact below_drewN (B2.o _) _⟩
    case measure=>have:=LT.o;simp[intOf];omega
  ·have hlt':¬ (k:Int)<(n:Int):=by omega
   have RES:=zq (show heldL l a i=0 from heldL_no fun y hy=>by
    obtain⟨j,hj,e⟩:=List.mem_iff_getElem.1 hy
    exact IV.o j y (by have:=HN.o;omega) (by rw[<- e];exact List.getElem?_eq_getElem hj))
   have B2:=zq BW.o
   go_wp2_with fail
   go_ret
   exact⟨by rw[RES.o];rfl,by first|exact B2.o|exact below_drewN B2.o _⟩
end Go.Proofs.YtnkpdfjnjmmleaaGreatDoor
