/- Joined: RCopy, SameS, RSame, RFlags, FlagsA. -/
import Derived.Test.YtfknkmlocbojhaaGreatDoorGk
import Derived.Test.YtfknkmlocbojhaaGreatDoorGa
import Derived.Laws.StructEq
import Derived.Test.YtfknkmlocbojhaaGreatDoorGh
import Derived.Test.YtfknkmlocbojhaaGreatDoorGp
import Derived.Test.YtfknkmlocbojhaaGreatDoorGi
set_option linter.unusedVariables false
set_option linter.unusedSimpArgs false
namespace Go.Proofs.YtfknkmlocbojhaaGreatDoor
open Go.RowKit Go.Bw Go.Maps Go.Shelf Go.Bw.Fall
structure Nk (w:World) (R0 b1 b2 b3:Nat) (C1:Array Value) (L:aH) (v1 v2 v3:Value) (ac:List (Acc×Value)) (k:Nat) (va:Value) (acs:List (Acc×Value)) (W:World):Prop where
 at_:At w W [(b1, 31,C1),(b2, 31,dF),(b3, 31,#[.int .i64 L.day,v1,v2,v3,va,.slice none 0 0,.slice none 0 0,.slice none 0 0,.slice none 0 0])]
 rb:R0<=W.heap.size
 aO:aT W R0 93 2 iJ.cells v1 L.aO
 ah:aT W R0 55 4 eU.cells v2 L.ah
 af:aT W R0 51 7 Ins.cells v3 L.af
 ai:aT W R0 48 4 Acc.cells va acs
 same:acs.map (·.1)=(ac.take k).map (·.1)
 aV:∀ p∈acs,aT W R0 3 1 dn p.2 p.1.aV
 sep:gy W R0 ([v1,v2,v3]++va::acs.map (·.2))
noncomputable def _root_.Go.Bw.oV {α:Type} (x y:α):Bool:=by classical exact decide (x=y)
theorem _root_.Go.Bw.dJ {α:Type} {x y:α} (h:x=y):oV x y=true:=by unfold oV;exact @decide_eq_true _ (Classical.propDecidable _) h
theorem _root_.Go.Bw.dD {α:Type} {x y:α} (h:x≠y):oV x y=false:=by unfold oV;exact @decide_eq_false _ (Classical.propDecidable _) h
theorem kG {α:Type} {l m:List α} (h:l.length≠m.length):oV l m=false:=dD (fun e=>h (by rw[e]))
theorem kF {α:Type} {l m:List α} {n:Nat} (h1:l.length=n) (h2:m.length=n) (h:l.take n=m.take n):oV l m=true:=dJ (by rwa [List.take_of_length_le (by omega),List.take_of_length_le (by omega)] at h)
theorem kH {α:Type} {l m:List α} {k:Nat} {x y:α} (hx:l[k]?=some x) (hy:m[k]?=some y) (h:x≠y):oV l m=false:=dD (fun e=>h (by rw[e,hy] at hx;exact (Option.some.inj hx).symm))
theorem jm {α:Type} {l m:List α} {k:Nat} {x:α} (hx:l[k]?=some x) (hy:m[k]?=some x) (h:l.take k=m.take k):l.take (k+1)=m.take (k+1):=by
 rw[List.take_add_one,List.take_add_one,hx,hy,h]
theorem ED (a b:ByteArray):a.toList=b.toList↔a=b:=by rw[<-lq,beq_iff_eq]
theorem jk {P:Program} {ops:Array Oper} {C:World->Prop} {Q:Act->Prop} {a:Act} {o:Oper} {rest:List Oper} (hgd:o.guard=none) (op:BinOp) (t:TypeId) (x y:Operand) (t2:TypeId) (ho:o.op=.binOp op t x y t2)
 (u v r:Value) (hx:a.eval x=u) (hy:a.eval y=v) (hr:∀ w,C w->(eqGuard op t x y u v).run P w=.ok () w/\(binOp op t u v).run P w=.ok r w)
 (h:wpQuiet P ops C Q rest (a.put o.dst r)):wpQuiet P ops C Q (o::rest) a:=by
 refine wpQuiet_step (fun K hK=>?_);rw[if_pos (by simp[Region.wanted,hgd])];refine⟨r,fun w hw=>?_,hK _ h⟩;unfold Oper.quietAt execOp
 simp only[ho,hx,hy,Sem.run_bind,Sem.run_pure,Result.andThen_ok,(hr w hw).1,(hr w hw).2]
 exact⟨rfl,rfl⟩
theorem Nr:Tryz.prog.underlying 93=some (.struct (Tryz.prog.fieldsOf 93)):=by kernel_rfl
theorem Nz:Tryz.prog.stoodInHeld 93=false:=by kernel_rfl
theorem Nv:Tryz.prog.eqGuardType Tryz.prog.depth 93=false:=by kernel_rfl
theorem Lr (w:World) (x y:iJ) (a b:Operand):(eqGuard .neq 93 a b (.agg #[.int .i64 x.rate,.int .i64 x.fU]) (.agg #[.int .i64 y.rate,.int .i64 y.fU])).run Tryz.prog w=.ok () w/\(binOp .neq 93 (.agg #[.int .i64 x.rate,.int .i64 x.fU]) (.agg #[.int .i64 y.rate,.int .i64 y.fU])).run Tryz.prog w=.ok (.bool (!oV x y)) w:=by
 refine⟨run_eqGuard_agg w .neq 93 a b _ _ Nv,?_⟩;rw[run_neq_struct,show (10000:Nat)=9999+1 from rfl,run_equalIn_agg w 9999 93 _ _ Nr Nz]
 simp only[Program.fieldsOf,Tryz.underlying93]
 go_simp;by_cases h:x=y
 ·rw[dJ h];subst h;simp
 rw[dD h];by_cases h0:x.rate=y.rate;rotate_left
 ·simp[h0]
 by_cases h1:x.fU=y.fU;rotate_left
 ·simp[h1]
 exact absurd (by cases x;cases y;simp_all) h
theorem JC:Tryz.prog.underlying 55=some (.struct (Tryz.prog.fieldsOf 55)):=by kernel_rfl
theorem JK:Tryz.prog.stoodInHeld 55=false:=by kernel_rfl
theorem JG:Tryz.prog.eqGuardType Tryz.prog.depth 55=false:=by kernel_rfl
theorem Ig (w:World) (x y:eU) (a b:Operand):(eqGuard .neq 55 a b (.agg #[.string x.name,.int .i64 x.cur,.int .i64 x.price,.int .i64 x.dL]) (.agg #[.string y.name,.int .i64 y.cur,.int .i64 y.price,.int .i64 y.dL])).run Tryz.prog w=.ok () w/\(binOp .neq 55 (.agg #[.string x.name,.int .i64 x.cur,.int .i64 x.price,.int .i64 x.dL]) (.agg #[.string y.name,.int .i64 y.cur,.int .i64 y.price,.int .i64 y.dL])).run Tryz.prog w=.ok (.bool (!oV x y)) w:=by
 refine⟨run_eqGuard_agg w .neq 55 a b _ _ JG,?_⟩;rw[run_neq_struct,show (10000:Nat)=9999+1 from rfl,run_equalIn_agg w 9999 55 _ _ JC JK]
 simp only[Program.fieldsOf,Tryz.underlying55]
 go_simp;by_cases h:x=y
 ·rw[dJ h];subst h;simp
 rw[dD h];by_cases h0:x.name=y.name;rotate_left
 ·simp[h0,ED]
 by_cases h1:x.cur=y.cur;rotate_left
 ·simp[h1]
 by_cases h2:x.price=y.price;rotate_left
 ·simp[h2]
 by_cases h3:x.dL=y.dL;rotate_left
 ·simp[h3]
 exact absurd (by cases x;cases y;simp_all) h
theorem JA:Tryz.prog.underlying 51=some (.struct (Tryz.prog.fieldsOf 51)):=by kernel_rfl
theorem JI:Tryz.prog.stoodInHeld 51=false:=by kernel_rfl
theorem JE:Tryz.prog.eqGuardType Tryz.prog.depth 51=false:=by kernel_rfl
theorem Ic (w:World) (x y:Ins) (a b:Operand):(eqGuard .neq 51 a b (.agg #[.int .i64 x.kind,.int .i64 x.under,.int .i64 x.mult,.int .i64 x.strike,.int .i64 x.aU,.bool x.call,.int .i64 x.mark]) (.agg #[.int .i64 y.kind,.int .i64 y.under,.int .i64 y.mult,.int .i64 y.strike,.int .i64 y.aU,.bool y.call,.int .i64 y.mark])).run Tryz.prog w=.ok () w/\(binOp .neq 51 (.agg #[.int .i64 x.kind,.int .i64 x.under,.int .i64 x.mult,.int .i64 x.strike,.int .i64 x.aU,.bool x.call,.int .i64 x.mark]) (.agg #[.int .i64 y.kind,.int .i64 y.under,.int .i64 y.mult,.int .i64 y.strike,.int .i64 y.aU,.bool y.call,.int .i64 y.mark])).run Tryz.prog w=.ok (.bool (!oV x y)) w:=by
 refine⟨run_eqGuard_agg w .neq 51 a b _ _ JE,?_⟩;rw[run_neq_struct,show (10000:Nat)=9999+1 from rfl,run_equalIn_agg w 9999 51 _ _ JA JI]
 simp only[Program.fieldsOf,Tryz.underlying51]
 go_simp;by_cases h:x=y
 ·rw[dJ h];subst h;simp
 rw[dD h];by_cases h0:x.kind=y.kind;rotate_left
 ·simp[h0]
 by_cases h1:x.under=y.under;rotate_left
 ·simp[h1]
 by_cases h2:x.mult=y.mult;rotate_left
 ·simp[h2]
 by_cases h3:x.strike=y.strike;rotate_left
 ·simp[h3]
 by_cases h4:x.aU=y.aU;rotate_left
 ·simp[h4]
 by_cases h5:x.call=y.call;rotate_left
 ·simp[h5]
 by_cases h6:x.mark=y.mark;rotate_left
 ·simp[h6]
 exact absurd (by cases x;cases y;simp_all) h
theorem Nu:Tryz.prog.underlying 60=some (.struct (Tryz.prog.fieldsOf 60)):=by kernel_rfl
theorem NE:Tryz.prog.stoodInHeld 60=false:=by kernel_rfl
theorem Ny:Tryz.prog.eqGuardType Tryz.prog.depth 60=false:=by kernel_rfl
theorem Lu (w:World) (x y:Pos) (a b:Operand):(eqGuard .neq 60 a b (.agg #[.int .i64 x.aG,.int .i64 x.instr,.int .i64 x.qty]) (.agg #[.int .i64 y.aG,.int .i64 y.instr,.int .i64 y.qty])).run Tryz.prog w=.ok () w/\(binOp .neq 60 (.agg #[.int .i64 x.aG,.int .i64 x.instr,.int .i64 x.qty]) (.agg #[.int .i64 y.aG,.int .i64 y.instr,.int .i64 y.qty])).run Tryz.prog w=.ok (.bool (!oV x y)) w:=by
 refine⟨run_eqGuard_agg w .neq 60 a b _ _ Ny,?_⟩;rw[run_neq_struct,show (10000:Nat)=9999+1 from rfl,run_equalIn_agg w 9999 60 _ _ Nu NE]
 simp only[Program.fieldsOf,Tryz.underlying60]
 go_simp;by_cases h:x=y
 ·rw[dJ h];subst h;simp
 rw[dD h];by_cases h0:x.aG=y.aG;rotate_left
 ·simp[h0]
 by_cases h1:x.instr=y.instr;rotate_left
 ·simp[h1]
 by_cases h2:x.qty=y.qty;rotate_left
 ·simp[h2]
 exact absurd (by cases x;cases y;simp_all) h
theorem JB:Tryz.prog.underlying 82=some (.struct (Tryz.prog.fieldsOf 82)):=by kernel_rfl
theorem JJ:Tryz.prog.stoodInHeld 82=false:=by kernel_rfl
theorem JF:Tryz.prog.eqGuardType Tryz.prog.depth 82=false:=by kernel_rfl
theorem Ie (w:World) (x y:Ord) (a b:Operand):(eqGuard .neq 82 a b (.agg #[.int .i64 x.aG,.int .i64 x.id,.int .i64 x.instr,.int .i64 x.qty,.int .i64 x.price]) (.agg #[.int .i64 y.aG,.int .i64 y.id,.int .i64 y.instr,.int .i64 y.qty,.int .i64 y.price])).run Tryz.prog w=.ok () w/\(binOp .neq 82 (.agg #[.int .i64 x.aG,.int .i64 x.id,.int .i64 x.instr,.int .i64 x.qty,.int .i64 x.price]) (.agg #[.int .i64 y.aG,.int .i64 y.id,.int .i64 y.instr,.int .i64 y.qty,.int .i64 y.price])).run Tryz.prog w=.ok (.bool (!oV x y)) w:=by
 refine⟨run_eqGuard_agg w .neq 82 a b _ _ JF,?_⟩;rw[run_neq_struct,show (10000:Nat)=9999+1 from rfl,run_equalIn_agg w 9999 82 _ _ JB JJ]
 simp only[Program.fieldsOf,Tryz.underlying82]
 go_simp;by_cases h:x=y
 ·rw[dJ h];subst h;simp
 rw[dD h];by_cases h0:x.aG=y.aG;rotate_left
 ·simp[h0]
 by_cases h1:x.id=y.id;rotate_left
 ·simp[h1]
 by_cases h2:x.instr=y.instr;rotate_left
 ·simp[h2]
 by_cases h3:x.qty=y.qty;rotate_left
 ·simp[h3]
 by_cases h4:x.price=y.price;rotate_left
 ·simp[h4]
 exact absurd (by cases x;cases y;simp_all) h
theorem Ns:Tryz.prog.underlying 61=some (.struct (Tryz.prog.fieldsOf 61)):=by kernel_rfl
theorem NC:Tryz.prog.stoodInHeld 61=false:=by kernel_rfl
theorem Nw:Tryz.prog.eqGuardType Tryz.prog.depth 61=false:=by kernel_rfl
theorem Ls (w:World) (x y:Pos) (a b:Operand):(eqGuard .neq 61 a b (.agg #[.int .i64 x.aG,.int .i64 x.instr,.int .i64 x.qty]) (.agg #[.int .i64 y.aG,.int .i64 y.instr,.int .i64 y.qty])).run Tryz.prog w=.ok () w/\(binOp .neq 61 (.agg #[.int .i64 x.aG,.int .i64 x.instr,.int .i64 x.qty]) (.agg #[.int .i64 y.aG,.int .i64 y.instr,.int .i64 y.qty])).run Tryz.prog w=.ok (.bool (!oV x y)) w:=by
 refine⟨run_eqGuard_agg w .neq 61 a b _ _ Nw,?_⟩;rw[run_neq_struct,show (10000:Nat)=9999+1 from rfl,run_equalIn_agg w 9999 61 _ _ Ns NC]
 simp only[Program.fieldsOf,Tryz.underlying61]
 go_simp;by_cases h:x=y
 ·rw[dJ h];subst h;simp
 rw[dD h];by_cases h0:x.aG=y.aG;rotate_left
 ·simp[h0]
 by_cases h1:x.instr=y.instr;rotate_left
 ·simp[h1]
 by_cases h2:x.qty=y.qty;rotate_left
 ·simp[h2]
 exact absurd (by cases x;cases y;simp_all) h
theorem Ky {A B:aH} (h0:A.day=B.day) (h1:A.aO=B.aO) (h2:A.ah=B.ah) (h3:A.af=B.af) (h4:A.ai=B.ai) (h5:A.aB=B.aB) (h6:A.orders=B.orders) (h7:A.aF=B.aF) (h8:A.aK=B.aK):A=B:=by
 cases A;cases B;simp_all
end Go.Proofs.YtfknkmlocbojhaaGreatDoor
