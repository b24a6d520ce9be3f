/- An account more: a row of cash made, the account appended. -/
import Derived.Test.YtnkpdfjnjmmleaaGreatDoorGn
import Derived.Test.YtnkpdfjnjmmleaaGreatDoorGe
import Derived.Laws.OwnMore
set_option linter.unusedVariables false
set_option linter.unusedSimpArgs false
namespace Go.Proofs.YtnkpdfjnjmmleaaGreatDoor
open Go.RowKit Go.Bw Go.Maps Go.Shelf Go.Bw.Fall
theorem own_made (w:World) (B n:Nat) (hB:B <= w.heap.size) (hn:n <= maxLen):OwnOf (w.alloc (.cells (madeCells #[.int .i64 0] n) 3)) B 3 1 icell (.slice (some ⟨w.heap.size,0,none⟩) n n) (List.replicate n 0):=by
 have hf:(List.replicate n (0:Int)).flatMap icell=List.replicate n (Value.int .i64 0):=by
  induction n with
  | zero=>rfl
  | succ n ih=>rw[List.replicate_succ,List.flatMap_cons,ih (by omega),List.replicate_succ];rfl
 refine⟨by rw[hf];simp,Or.inr ⟨w.heap.size,n,_,by rw[List.length_replicate],hB,heap_alloc_new _ _,by simp,hn,by rw[size_madeCells,Nat.mul_one],?_⟩⟩
 rw[toList_madeCells_one,hf]
 simp
theorem make_ints (n:Nat) (hn:n <= 1000) (W:World):(Instr.makeSlice 28 (.int .i64 (n:Nat)) (.int .i64 (n:Nat))).run Tryz.prog W=.ok (.slice (some ⟨W.heap.size,0,none⟩) n n) (W.alloc (.cells (madeCells #[.int .i64 0] n) 3)):=by
 obtain⟨i0,t1,t2,t3,t4⟩:=info_parts TInt.info
 have:=run_make (P:=Tryz.prog) W 28 3 i0 (.int .i64 0) Tryz.underlying28 t1 t2 .i64 .i64 (n:Nat) (n:Nat) (by omega) (Int.le_refl _) (by rw[t4];omega) (by omega)
 rw[t3,Nat.mul_one] at this
 exact this
theorem bdAcc (p:Int) (n c:Nat) (a:Option Addr) (W:World):(Instr.build 56 #[(0,.int .i64 p),(1,.slice a n c)]).run Tryz.prog W=.ok (.agg #[.int .i64 p,.slice a n c,.bool false,.int .i64 0]) W:=by kernel_rfl
theorem newacct {w W:World} {R0:Nat} {bs:List (Nat×TypeId×Array Value)} {V:LedV} {L:Led} (F:FBs w R0 bs V L W) (n1:Nat) (hn1:n1 <= 1000) (hl:V.ac.length <= 1000) (p:Int) (W1:World) (hW1:W1=(W.alloc (.cells (madeCells #[.int .i64 0] n1) 3)).drew) (g:Nat) (hg:g=W.heap.size) :
 ∃ a' c' w3,(Builtin.append_ #[25, 25] 25 #[V.accts,.slice (some ⟨W1.heap.size,0,none⟩) 1 1]).run Tryz.prog (W1.alloc (.cells #[.int .i64 p,.slice (some ⟨g,0,none⟩) n1 n1,.bool false,.int .i64 0] 56))=.ok (.slice a' (V.ac.length+1) c') w3 /\
  FBs w R0 bs { V with accts:=.slice a' (V.ac.length+1) c',ac:=V.ac++[(⟨p,List.replicate n1 0,false,0⟩,.slice (some ⟨g,0,none⟩) n1 n1)] } { L with accts:=L.accts++[⟨p,List.replicate n1 0,false,0⟩] } w3 /\ FBs w R0 bs V L W1:=by
 have F1:FBs w R0 bs V L W1:=by rw[hW1];exact (F.go ((Below.refl _ _).alloc (Nat.le_refl _) _)).go ((Mod.refl (fun _=>False) _).drew).toBelow
 have O1:OwnOf W1 R0 3 1 icell (.slice (some ⟨g,0,none⟩) n1 n1) (List.replicate n1 0):=by
  rw[hW1,hg];exact (own_made W R0 n1 F.rb (by unfold maxLen;omega)).mod ((Mod.refl (fun _=>False) _).drew) (fun _ _ h=>h)
 have B1:Below W.heap.size W W1:=by rw[hW1];exact ((Mod.of_below ((Below.refl _ _).alloc (Nat.le_refl _) _)).drew).toBelow
 have S1:W1.heap.size=W.heap.size+1:=by rw[hW1];simp
 obtain⟨v',w3,hrun,ho,hm,hbk⟩:=app1_acct W1 R0 V.accts V.ac F1.own.accts F1.rb (⟨p,List.replicate n1 0,false,0⟩,.slice (some ⟨g,0,none⟩) n1 n1) rfl #[.int .i64 p,.slice (some ⟨g,0,none⟩) n1 n1,.bool false,.int .i64 0] rfl (by omega)
 obtain⟨a',c',hv',_⟩:=ho.form
 rw[List.length_append,List.length_singleton] at hv'
 subst hv'
 refine⟨a',c',w3,hrun,?_,F1⟩
 have hM:Mod (fun k=>V.accts.ownBlock=some k) W w3:=((Mod.of_below B1).mono (T:=fun k=>V.accts.ownBlock=some k) (fun _ _ h=>h.elim)).trans hm (fun _ _ h=>h)
 have hb2:∀ k,(Value.slice a' (V.ac.length+1) c').ownBlock=some k -> V.accts.ownBlock=some k \/ W.heap.size <= k:=fun k hk=>(hbk k hk).imp id (fun h=>by omega)
 have hc:OwnOf w3 R0 3 1 icell (.slice (some ⟨g,0,none⟩) n1 n1) (List.replicate n1 0):=O1.mod hm (fun k hk e=>by
  have h1:=(F.own.accts.lt k e).2
  simp[Value.ownBlock] at hk
  omega)
 have hvc:ApartV (.slice a' (V.ac.length+1) c') (.slice (some ⟨g,0,none⟩) n1 n1):=fun k hk hk2=>by
  simp[Value.ownBlock] at hk2
  rcases hbk k hk with h|h
  ·have:=(F.own.accts.lt k h).2;omega
  ·omega
 have o1:=F.own.new_accts (a:=⟨p,List.replicate n1 0,false,0⟩) hM ho hb2 hc (fun k hk=>by simp[Value.ownBlock] at hk;omega) hvc (fun x hx=>by have:=List.eq_of_mem_replicate hx;omega)
 have hlo:=F.lo
 refine⟨F.at_.mod hM (fun k e=>by have:=F.own.accts.lt k e;omega) (fun z hz e=>F.nin z hz V.accts (by simp[LedV.rows]) e),o1,fun z hz x hx=>?_,Nat.le_trans F.rb hM.size,F.lo⟩
 have hlt:=F.at_.lt z hz
 have e:({ V with accts:=.slice a' (V.ac.length+1) c',ac:=V.ac++[(⟨p,List.replicate n1 0,false,0⟩,.slice (some ⟨g,0,none⟩) n1 n1)] }:LedV).rows=(V.rows.set 3 (.slice a' (V.ac.length+1) c'))++[.slice (some ⟨g,0,none⟩) n1 n1]:=by simp[LedV.rows]
 rw[e] at hx
 intro hk
 rcases List.mem_append.1 hx with hx|hx
 ·rcases List.mem_or_eq_of_mem_set hx with hx|rfl
  ·exact F.nin z hz x hx hk
  ·rcases hb2 _ hk with h|h
   ·exact F.nin z hz V.accts (by simp[LedV.rows]) h
   ·omega
 ·obtain rfl:=List.mem_singleton.1 hx
  simp[Value.ownBlock] at hk
  omega
end Go.Proofs.YtnkpdfjnjmmleaaGreatDoor
