/- LifeClears: what its walks share (printed by tools/gen_laws19.py). -/
import Derived.Test.YtfknkmlocbojhaaGreatDoorHw
import Derived.Test.YtfknkmlocbojhaaGreatDoorHx
import Derived.Test.YtfknkmlocbojhaaGreatDoorHp
import Derived.Test.YtfknkmlocbojhaaGreatDoorHo
import Derived.Test.YtfknkmlocbojhaaGreatDoorHq
import Derived.Test.YtfknkmlocbojhaaGreatDoorGn
import Derived.Test.YtfknkmlocbojhaaGreatDoorGk
set_option linter.unusedVariables false
set_option linter.unusedSimpArgs false
namespace Go.Proofs.YtfknkmlocbojhaaGreatDoor
open Go.RowKit Go.Bw Go.Maps Go.Shelf Go.Bw.Fall
theorem CO:(Tryz.prog.info? 55).map (·.size)=some 4:=by kernel_rfl
theorem CJ:(Tryz.prog.info? 51).map (·.size)=some 7:=by kernel_rfl
theorem oQ (n:ByteArray) (c p v:Int):(#[Value.string n,.int .i64 c,.int .i64 p,.int .i64 v]:Array Value).all (·.oneCell')=true:=by simp[Value.oneCell']
theorem allI (k u m s e:Int) (c:Bool) (r:Int):(#[Value.int .i64 k,.int .i64 u,.int .i64 m,.int .i64 s,.int .i64 e,.bool c,.int .i64 r]:Array Value).all (·.oneCell')=true:=by simp[Value.oneCell']
theorem _root_.Go.Bw.At.swap2 {w W:World} {a b:Nat×TypeId×Array Value} (h:At w W [a,b]):At w W [b,a] :=
 ⟨h.low,fun x hx=>h.has x (by simp at hx ⊢;exact hx.symm),fun x hx=>h.new x (by simp at hx ⊢;exact hx.symm),by have:=h.Nb;simp at this ⊢;exact fun e=>this e.symm⟩
theorem bK {w W:World} {n g:Nat} {cs:Array Value} (hb:Below n w W) (hw:n=w.heap.size) (hg:n<=g):Below n w (W.setRow g cs):=by
 subst hw;exact ((Mod.of_below hb).mono (T:=fun k=>w.heap.size<=k) (fun _ _ h=>h.elim)).trans (bQ g cs) (fun k _ hk=>by rw[hk];exact hg) |>.mono (T:=fun _=>False) (fun k hk h=>by omega) |>.aN
theorem pU {α:Type} {l:List α} {k:Nat} {x:α} (h:l[k]?=some x) (f:α->Bool):(l.take (k+1)).filter f=(l.take k).filter f++if f x=true then [x] else []:=by
 rw[List.take_add_one,h,List.filter_append]
 simp only[Option.toList,List.filter_cons,List.filter_nil]
end Go.Proofs.YtfknkmlocbojhaaGreatDoor
