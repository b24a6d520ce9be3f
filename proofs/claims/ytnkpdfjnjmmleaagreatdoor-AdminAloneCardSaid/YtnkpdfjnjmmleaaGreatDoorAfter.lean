/- bulwarklaw18.after: any of the eight calls (printed by tools/gen_after.py). -/
import Derived.Test.YtnkpdfjnjmmleaaGreatDoorHc
set_option linter.unusedVariables false
set_option linter.unusedSimpArgs false
set_option maxRecDepth 100000
set_option maxHeartbeats 8000000
namespace Go.Bw
theorem and7 (x:Int):bits .and .i64 x 7=x % 8:=by
 have h:bits .and .i64 x 7=IntKind.i64.wrap (((x % 18446744073709551616).toNat &&& 7:Nat):Int):=by
  simp only[bits,IntKind.bits,BitVec.toNat_and,BitVec.toNat_ofInt]
  rfl
 rw[h,nat_mask3,IntKind.wrap_i64]
 omega
structure Cal where
 kind:Int
 a:Int
 b:Int
 c:Int
 u:Und
 i:Ins
def Cal.cells (c:Cal):Array Value:=#[.int .i64 c.kind,.int .i64 c.a,.int .i64 c.b,.int .i64 c.c,.string c.u.name,.int .i64 c.u.cur,.int .i64 c.u.price,.int .i64 c.u.vol,.int .i64 c.i.kind,.int .i64 c.i.under,.int .i64 c.i.mult,.int .i64 c.i.strike,.int .i64 c.i.expiry,.bool c.i.call,.int .i64 c.i.mark]
def Cal.k (c:Cal):Nat:=(c.kind % 8).toNat
noncomputable def Cal.adm (L:Led) (c:Cal):Adm:=admS L c.k c.a c.b c.c c.u c.i
end Go.Bw
namespace Go.Proofs.YtnkpdfjnjmmleaaGreatDoor
open Go.RowKit Go.Bw Go.Maps Go.Shelf Go.Bw.Fall
def AftRet (w:World) (r:Led×Int×Int) (e:Ending) (w':World):Prop:=∃ U:LedV,e=.returned (.tuple #[U.val r.1,.int .i64 r.2.2]) /\ LedOwn w' w.heap.size U r.1 /\ Below w.heap.size w w'
theorem after_any (w:World) (V:LedV) (L:Led) (h:LedAt w V L) (hL:L.accts.length <= 1024) (hGr:Grd w) (c:Cal) (hu:c.u.name.size <= maxLen) (hx:I64 c.c) :
 Calls Tryz.prog 31 #[V.val L,.agg c.cells] w (AftRet w (admA L (c.adm L))):=by
 have LC:=zq (ledc h)
 have C0:=zq (fun W (hb:Below w.heap.size w W)=>aprice_any W V L (h.below hb) hL (hGr.below hb) c.a c.b c.c)
 have C1:=zq (fun W (hb:Below w.heap.size w W)=>arate_any W V L (h.below hb) hL (hGr.below hb) c.a c.b c.c)
 have C2:=zq (fun W (hb:Below w.heap.size w W)=>acash_any W V L (h.below hb) hL (hGr.below hb) c.a c.b c.c hx)
 have C3:=zq (fun W (hb:Below w.heap.size w W)=>aaccount_any W V L (h.below hb) hL (hGr.below hb) c.a)
 have C4:=zq (fun W (hb:Below w.heap.size w W)=>aunder_any W V L (h.below hb) hL (hGr.below hb) c.u hu)
 have C5:=zq (fun W (hb:Below w.heap.size w W)=>ainstr_any W V L (h.below hb) hL (hGr.below hb) c.i)
 have C6:=zq (fun W (hb:Below w.heap.size w W)=>asupply_any W V L (h.below hb) hL (hGr.below hb) c.a c.b)
 have C7:=zq (fun W (hb:Below w.heap.size w W)=>areserve_any W V L (h.below hb) hL (hGr.below hb) c.a c.b c.c)
 unfold LedV.val at C0 C1 C2 C3 C4 C5 C6 C7 ⊢
 obtain⟨C,hC⟩:∃ C,C=V.cells L:=⟨_,rfl⟩
 rw[<- hC] at C0 C1 C2 C3 C4 C5 C6 C7 LC ⊢
 unfold Cal.cells
 obtain⟨W0,hW0⟩:∃ s,s=(((w.alloc (.cells C 31)).alloc (.cells #[.int .i64 c.kind,.int .i64 c.a,.int .i64 c.b,.int .i64 c.c,.string c.u.name,.int .i64 c.u.cur,.int .i64 c.u.price,.int .i64 c.u.vol,.int .i64 c.i.kind,.int .i64 c.i.under,.int .i64 c.i.mult,.int .i64 c.i.strike,.int .i64 c.i.expiry,.bool c.i.call,.int .i64 c.i.mark] 51)).alloc (.cells #[.int .i64 0,.slice none 0 0,.slice none 0 0,.slice none 0 0,.slice none 0 0,.slice none 0 0,.slice none 0 0,.slice none 0 0,.slice none 0 0] 31)).alloc (.cells #[.int .i64 0,.slice none 0 0,.slice none 0 0,.slice none 0 0,.slice none 0 0,.slice none 0 0,.slice none 0 0,.slice none 0 0,.slice none 0 0] 31):=⟨_,rfl⟩
 obtain⟨b0,hb0⟩:∃ n,n=w.heap.size:=⟨_,rfl⟩
 have X0:=zq (show At w W0 [(b0, 31,C),(b0+1, 51,#[.int .i64 c.kind,.int .i64 c.a,.int .i64 c.b,.int .i64 c.c,.string c.u.name,.int .i64 c.u.cur,.int .i64 c.u.price,.int .i64 c.u.vol,.int .i64 c.i.kind,.int .i64 c.i.under,.int .i64 c.i.mult,.int .i64 c.i.strike,.int .i64 c.i.expiry,.bool c.i.call,.int .i64 c.i.mark]),(b0+1+1, 31,led0),(b0+1+1+1, 31,led0)] from by
  have a:=(((((At.start w).alloc 31 C).alloc 51 #[.int .i64 c.kind,.int .i64 c.a,.int .i64 c.b,.int .i64 c.c,.string c.u.name,.int .i64 c.u.cur,.int .i64 c.u.price,.int .i64 c.u.vol,.int .i64 c.i.kind,.int .i64 c.i.under,.int .i64 c.i.mult,.int .i64 c.i.strike,.int .i64 c.i.expiry,.bool c.i.call,.int .i64 c.i.mark]).alloc 31 #[.int .i64 0,.slice none 0 0,.slice none 0 0,.slice none 0 0,.slice none 0 0,.slice none 0 0,.slice none 0 0,.slice none 0 0,.slice none 0 0]).alloc 31 #[.int .i64 0,.slice none 0 0,.slice none 0 0,.slice none 0 0,.slice none 0 0,.slice none 0 0,.slice none 0 0,.slice none 0 0,.slice none 0 0])
  have e:∀ (w:World) (o:Obj),(w.alloc o).heap.size=w.heap.size+1:=fun w o=>by simp
  simp only[e] at a
  rw[<- hW0,<- hb0] at a
  exact a)
 have z0:W0.cell? ⟨b0+1,0,none⟩=some (.int .i64 c.kind):=X0.o.cell 1 rfl 0 rfl
 have KK:=zq (show ((c.k:Nat):Int)=c.kind % 8 /\ c.k<8 from by unfold Cal.k;omega)
 unfold Cal.adm
 obtain⟨k,hk⟩:∃ k,k=c.k:=⟨_,rfl⟩
 rw[<- hk] at KK ⊢
 have HB:=zq hb0
 have HW:=zq hW0
 clear h hL hGr hC hk hu hx hW0 hb0
 have ch:k=0 \/ k=1 \/ k=2 \/ k=3 \/ k=4 \/ k=5 \/ k=6 \/ k=7:=by have:=KK.o.2;omega
 rcases ch with rfl|rfl|rfl|rfl|rfl|rfl|rfl|rfl
 ·skip
  have hb7:bits .and .i64 c.kind 7=0:=by rw[and7];exact KK.o.1.symm
  obtain⟨M,num,er,hM⟩:∃ M num er,admA L (admS L 0 c.a c.b c.c c.u c.i)=(M,num,er):=⟨_,_,_,rfl⟩
  have CC:=zq (C0.o W0 X0.o.low)
  have hM':admA L (priceS L c.a c.b c.c)=(M,num,er):=hM
  rw[hM'] at CC
  rw[hM]
  clear C0 C1 C2 C3 C4 C5 C6 C7 KK hM hM'
  go_enter Tryz.func31,Tryz.ntmps31
  go_upto_region 2 with (fail)
  rw[<- HB.o,<- HW.o]
  go_upto_region 4 with (fail)
  clear z0
  have z1:W0.cell? ⟨b0+1,1,none⟩=some (.int .i64 c.a):=X0.o.cell 1 rfl 1 rfl
  have z2:W0.cell? ⟨b0+1,2,none⟩=some (.int .i64 c.b):=X0.o.cell 1 rfl 2 rfl
  have z3:W0.cell? ⟨b0+1,3,none⟩=some (.int .i64 c.c):=X0.o.cell 1 rfl 3 rfl
  go_wp2_with (refine led_load (X0.o.get 0 rfl) LC.o rfl rfl rfl ?_)
  refine CC.o.mono ?_
  rintro e w2 ⟨U,rfl,own,hb⟩
  have OW:=zq own
  have A2:=zq (X0.o.go hb)
  have LU:=zq (ledc own.led)
  have A3:=zq (A2.o.setRow 3 rfl (U.cells M))
  have A4:=zq (A3.o.setRow 2 rfl (U.cells M))
  have S0:=zq (show b0+1+1+1<W0.heap.size /\ w.heap.size <= W0.heap.size from ⟨X0.o.lt (b0+1+1+1, 31,led0) (by simp),X0.o.low.size⟩)
  unfold LedV.val
  clear own hb z1 z2 z3
  go_simp
  go_wp2_with (first|refine led_store (A2.o.get 3 rfl) ledc0 LU.o rfl rfl rfl rfl ?_|refine led_load (A3.o.get 3 rfl) LU.o rfl rfl rfl ?_|refine led_store (A3.o.get 2 rfl) ledc0 LU.o rfl rfl rfl rfl ?_)
  refine bodyPost_ret (led_res2 rfl _ _ (b0+1+1) _ rfl (A4.o.get 2 rfl) LU.o) rfl ⟨U,rfl,?_,A4.o.low⟩
  refine LedOwn.base ((OW.o.mod (mod_setRow' (w:=w2) (b0+1+1+1) _) (fun k hk _ e=>by have:=S0.o;omega)).mod (mod_setRow' (b0+1+1) _) (fun k hk _ e=>by have:=S0.o;omega)) S0.o.2
 ·skip
  have hb7:bits .and .i64 c.kind 7=1:=by rw[and7];exact KK.o.1.symm
  obtain⟨M,num,er,hM⟩:∃ M num er,admA L (admS L 1 c.a c.b c.c c.u c.i)=(M,num,er):=⟨_,_,_,rfl⟩
  have CC:=zq (C1.o W0 X0.o.low)
  have hM':admA L (rateS L c.a c.b c.c)=(M,num,er):=hM
  rw[hM'] at CC
  rw[hM]
  clear C0 C1 C2 C3 C4 C5 C6 C7 KK hM hM'
  go_enter Tryz.func31,Tryz.ntmps31
  go_upto_region 2 with (fail)
  rw[<- HB.o,<- HW.o]
  go_upto_region 4 with (fail)
  clear z0
  have z1:W0.cell? ⟨b0+1,1,none⟩=some (.int .i64 c.a):=X0.o.cell 1 rfl 1 rfl
  have z2:W0.cell? ⟨b0+1,2,none⟩=some (.int .i64 c.b):=X0.o.cell 1 rfl 2 rfl
  have z3:W0.cell? ⟨b0+1,3,none⟩=some (.int .i64 c.c):=X0.o.cell 1 rfl 3 rfl
  go_wp2_with (refine led_load (X0.o.get 0 rfl) LC.o rfl rfl rfl ?_)
  refine CC.o.mono ?_
  rintro e w2 ⟨U,rfl,own,hb⟩
  have OW:=zq own
  have A2:=zq (X0.o.go hb)
  have LU:=zq (ledc own.led)
  have A3:=zq (A2.o.setRow 3 rfl (U.cells M))
  have A4:=zq (A3.o.setRow 2 rfl (U.cells M))
  have S0:=zq (show b0+1+1+1<W0.heap.size /\ w.heap.size <= W0.heap.size from ⟨X0.o.lt (b0+1+1+1, 31,led0) (by simp),X0.o.low.size⟩)
  unfold LedV.val
  clear own hb z1 z2 z3
  go_simp
  go_wp2_with (first|refine led_store (A2.o.get 3 rfl) ledc0 LU.o rfl rfl rfl rfl ?_|refine led_load (A3.o.get 3 rfl) LU.o rfl rfl rfl ?_|refine led_store (A3.o.get 2 rfl) ledc0 LU.o rfl rfl rfl rfl ?_)
  refine bodyPost_ret (led_res2 rfl _ _ (b0+1+1) _ rfl (A4.o.get 2 rfl) LU.o) rfl ⟨U,rfl,?_,A4.o.low⟩
  refine LedOwn.base ((OW.o.mod (mod_setRow' (w:=w2) (b0+1+1+1) _) (fun k hk _ e=>by have:=S0.o;omega)).mod (mod_setRow' (b0+1+1) _) (fun k hk _ e=>by have:=S0.o;omega)) S0.o.2
 ·skip
  have hb7:bits .and .i64 c.kind 7=2:=by rw[and7];exact KK.o.1.symm
  obtain⟨M,num,er,hM⟩:∃ M num er,admA L (admS L 2 c.a c.b c.c c.u c.i)=(M,num,er):=⟨_,_,_,rfl⟩
  have CC:=zq (C2.o W0 X0.o.low)
  have hM':admA L (cashS L c.a c.b c.c)=(M,num,er):=hM
  rw[hM'] at CC
  rw[hM]
  clear C0 C1 C2 C3 C4 C5 C6 C7 KK hM hM'
  go_enter Tryz.func31,Tryz.ntmps31
  go_upto_region 2 with (fail)
  rw[<- HB.o,<- HW.o]
  go_upto_region 4 with (fail)
  clear z0
  have z1:W0.cell? ⟨b0+1,1,none⟩=some (.int .i64 c.a):=X0.o.cell 1 rfl 1 rfl
  have z2:W0.cell? ⟨b0+1,2,none⟩=some (.int .i64 c.b):=X0.o.cell 1 rfl 2 rfl
  have z3:W0.cell? ⟨b0+1,3,none⟩=some (.int .i64 c.c):=X0.o.cell 1 rfl 3 rfl
  go_wp2_with (refine led_load (X0.o.get 0 rfl) LC.o rfl rfl rfl ?_)
  refine CC.o.mono ?_
  rintro e w2 ⟨U,rfl,own,hb⟩
  have OW:=zq own
  have A2:=zq (X0.o.go hb)
  have LU:=zq (ledc own.led)
  have A3:=zq (A2.o.setRow 3 rfl (U.cells M))
  have A4:=zq (A3.o.setRow 2 rfl (U.cells M))
  have S0:=zq (show b0+1+1+1<W0.heap.size /\ w.heap.size <= W0.heap.size from ⟨X0.o.lt (b0+1+1+1, 31,led0) (by simp),X0.o.low.size⟩)
  unfold LedV.val
  clear own hb z1 z2 z3
  go_simp
  go_wp2_with (first|refine led_store (A2.o.get 3 rfl) ledc0 LU.o rfl rfl rfl rfl ?_|refine led_load (A3.o.get 3 rfl) LU.o rfl rfl rfl ?_|refine led_store (A3.o.get 2 rfl) ledc0 LU.o rfl rfl rfl rfl ?_)
  refine bodyPost_ret (led_res2 rfl _ _ (b0+1+1) _ rfl (A4.o.get 2 rfl) LU.o) rfl ⟨U,rfl,?_,A4.o.low⟩
  refine LedOwn.base ((OW.o.mod (mod_setRow' (w:=w2) (b0+1+1+1) _) (fun k hk _ e=>by have:=S0.o;omega)).mod (mod_setRow' (b0+1+1) _) (fun k hk _ e=>by have:=S0.o;omega)) S0.o.2
 ·skip
  have hb7:bits .and .i64 c.kind 7=3:=by rw[and7];exact KK.o.1.symm
  obtain⟨M,num,er,hM⟩:∃ M num er,admA L (admS L 3 c.a c.b c.c c.u c.i)=(M,num,er):=⟨_,_,_,rfl⟩
  have CC:=zq (C3.o W0 X0.o.low)
  have hM':admA L (accountS L c.a)=(M,num,er):=hM
  rw[hM'] at CC
  rw[hM]
  clear C0 C1 C2 C3 C4 C5 C6 C7 KK hM hM'
  go_enter Tryz.func31,Tryz.ntmps31
  go_upto_region 2 with (fail)
  rw[<- HB.o,<- HW.o]
  go_upto_region 4 with (fail)
  clear z0
  have z1:W0.cell? ⟨b0+1,1,none⟩=some (.int .i64 c.a):=X0.o.cell 1 rfl 1 rfl
  go_wp2_with (refine led_load (X0.o.get 0 rfl) LC.o rfl rfl rfl ?_)
  refine CC.o.mono ?_
  rintro e w2 ⟨U,rfl,own,hb⟩
  have OW:=zq own
  have A2:=zq (X0.o.go hb)
  have LU:=zq (ledc own.led)
  have A3:=zq (A2.o.setRow 3 rfl (U.cells M))
  have A4:=zq (A3.o.setRow 2 rfl (U.cells M))
  have S0:=zq (show b0+1+1+1<W0.heap.size /\ w.heap.size <= W0.heap.size from ⟨X0.o.lt (b0+1+1+1, 31,led0) (by simp),X0.o.low.size⟩)
  unfold LedV.val
  clear own hb z1
  go_simp
  go_wp2_with (first|refine led_store (A2.o.get 3 rfl) ledc0 LU.o rfl rfl rfl rfl ?_|refine led_load (A3.o.get 3 rfl) LU.o rfl rfl rfl ?_|refine led_store (A3.o.get 2 rfl) ledc0 LU.o rfl rfl rfl rfl ?_)
  refine bodyPost_ret (led_res2 rfl _ _ (b0+1+1) _ rfl (A4.o.get 2 rfl) LU.o) rfl ⟨U,rfl,?_,A4.o.low⟩
  refine LedOwn.base ((OW.o.mod (mod_setRow' (w:=w2) (b0+1+1+1) _) (fun k hk _ e=>by have:=S0.o;omega)).mod (mod_setRow' (b0+1+1) _) (fun k hk _ e=>by have:=S0.o;omega)) S0.o.2
 ·skip
  have hb7:bits .and .i64 c.kind 7=4:=by rw[and7];exact KK.o.1.symm
  obtain⟨M,num,er,hM⟩:∃ M num er,admA L (admS L 4 c.a c.b c.c c.u c.i)=(M,num,er):=⟨_,_,_,rfl⟩
  have CC:=zq (C4.o W0 X0.o.low)
  have hM':admA L (underS L c.u)=(M,num,er):=hM
  rw[hM'] at CC
  rw[hM]
  clear C0 C1 C2 C3 C4 C5 C6 C7 KK hM hM'
  go_enter Tryz.func31,Tryz.ntmps31
  go_upto_region 2 with (fail)
  rw[<- HB.o,<- HW.o]
  go_upto_region 4 with (fail)
  clear z0
  have z4:W0.cell? ⟨b0+1,4,none⟩=some (.string c.u.name):=X0.o.cell 1 rfl 4 rfl
  have z5:W0.cell? ⟨b0+1,5,none⟩=some (.int .i64 c.u.cur):=X0.o.cell 1 rfl 5 rfl
  have z6:W0.cell? ⟨b0+1,6,none⟩=some (.int .i64 c.u.price):=X0.o.cell 1 rfl 6 rfl
  have z7:W0.cell? ⟨b0+1,7,none⟩=some (.int .i64 c.u.vol):=X0.o.cell 1 rfl 7 rfl
  go_wp2_with (refine led_load (X0.o.get 0 rfl) LC.o rfl rfl rfl ?_)
  refine CC.o.mono ?_
  rintro e w2 ⟨U,rfl,own,hb⟩
  have OW:=zq own
  have A2:=zq (X0.o.go hb)
  have LU:=zq (ledc own.led)
  have A3:=zq (A2.o.setRow 3 rfl (U.cells M))
  have A4:=zq (A3.o.setRow 2 rfl (U.cells M))
  have S0:=zq (show b0+1+1+1<W0.heap.size /\ w.heap.size <= W0.heap.size from ⟨X0.o.lt (b0+1+1+1, 31,led0) (by simp),X0.o.low.size⟩)
  unfold LedV.val
  clear own hb z4 z5 z6 z7
  go_simp
  go_wp2_with (first|refine led_store (A2.o.get 3 rfl) ledc0 LU.o rfl rfl rfl rfl ?_|refine led_load (A3.o.get 3 rfl) LU.o rfl rfl rfl ?_|refine led_store (A3.o.get 2 rfl) ledc0 LU.o rfl rfl rfl rfl ?_)
  refine bodyPost_ret (led_res2 rfl _ _ (b0+1+1) _ rfl (A4.o.get 2 rfl) LU.o) rfl ⟨U,rfl,?_,A4.o.low⟩
  refine LedOwn.base ((OW.o.mod (mod_setRow' (w:=w2) (b0+1+1+1) _) (fun k hk _ e=>by have:=S0.o;omega)).mod (mod_setRow' (b0+1+1) _) (fun k hk _ e=>by have:=S0.o;omega)) S0.o.2
 ·skip
  have hb7:bits .and .i64 c.kind 7=5:=by rw[and7];exact KK.o.1.symm
  obtain⟨M,num,er,hM⟩:∃ M num er,admA L (admS L 5 c.a c.b c.c c.u c.i)=(M,num,er):=⟨_,_,_,rfl⟩
  have CC:=zq (C5.o W0 X0.o.low)
  have hM':admA L (instrS L c.i)=(M,num,er):=hM
  rw[hM'] at CC
  rw[hM]
  clear C0 C1 C2 C3 C4 C5 C6 C7 KK hM hM'
  go_enter Tryz.func31,Tryz.ntmps31
  go_upto_region 2 with (fail)
  rw[<- HB.o,<- HW.o]
  go_upto_region 4 with (fail)
  clear z0
  have z8:W0.cell? ⟨b0+1,8,none⟩=some (.int .i64 c.i.kind):=X0.o.cell 1 rfl 8 rfl
  have z9:W0.cell? ⟨b0+1,9,none⟩=some (.int .i64 c.i.under):=X0.o.cell 1 rfl 9 rfl
  have z10:W0.cell? ⟨b0+1,10,none⟩=some (.int .i64 c.i.mult):=X0.o.cell 1 rfl 10 rfl
  have z11:W0.cell? ⟨b0+1,11,none⟩=some (.int .i64 c.i.strike):=X0.o.cell 1 rfl 11 rfl
  have z12:W0.cell? ⟨b0+1,12,none⟩=some (.int .i64 c.i.expiry):=X0.o.cell 1 rfl 12 rfl
  have z13:W0.cell? ⟨b0+1,13,none⟩=some (.bool c.i.call):=X0.o.cell 1 rfl 13 rfl
  have z14:W0.cell? ⟨b0+1,14,none⟩=some (.int .i64 c.i.mark):=X0.o.cell 1 rfl 14 rfl
  go_wp2_with (refine led_load (X0.o.get 0 rfl) LC.o rfl rfl rfl ?_)
  refine CC.o.mono ?_
  rintro e w2 ⟨U,rfl,own,hb⟩
  have OW:=zq own
  have A2:=zq (X0.o.go hb)
  have LU:=zq (ledc own.led)
  have A3:=zq (A2.o.setRow 3 rfl (U.cells M))
  have A4:=zq (A3.o.setRow 2 rfl (U.cells M))
  have S0:=zq (show b0+1+1+1<W0.heap.size /\ w.heap.size <= W0.heap.size from ⟨X0.o.lt (b0+1+1+1, 31,led0) (by simp),X0.o.low.size⟩)
  unfold LedV.val
  clear own hb z8 z9 z10 z11 z12 z13 z14
  go_simp
  go_wp2_with (first|refine led_store (A2.o.get 3 rfl) ledc0 LU.o rfl rfl rfl rfl ?_|refine led_load (A3.o.get 3 rfl) LU.o rfl rfl rfl ?_|refine led_store (A3.o.get 2 rfl) ledc0 LU.o rfl rfl rfl rfl ?_)
  refine bodyPost_ret (led_res2 rfl _ _ (b0+1+1) _ rfl (A4.o.get 2 rfl) LU.o) rfl ⟨U,rfl,?_,A4.o.low⟩
  refine LedOwn.base ((OW.o.mod (mod_setRow' (w:=w2) (b0+1+1+1) _) (fun k hk _ e=>by have:=S0.o;omega)).mod (mod_setRow' (b0+1+1) _) (fun k hk _ e=>by have:=S0.o;omega)) S0.o.2
 ·skip
  have hb7:bits .and .i64 c.kind 7=6:=by rw[and7];exact KK.o.1.symm
  obtain⟨M,num,er,hM⟩:∃ M num er,admA L (admS L 6 c.a c.b c.c c.u c.i)=(M,num,er):=⟨_,_,_,rfl⟩
  have CC:=zq (C6.o W0 X0.o.low)
  have hM':admA L (supplyS L c.a c.b)=(M,num,er):=hM
  rw[hM'] at CC
  rw[hM]
  clear C0 C1 C2 C3 C4 C5 C6 C7 KK hM hM'
  go_enter Tryz.func31,Tryz.ntmps31
  go_upto_region 2 with (fail)
  rw[<- HB.o,<- HW.o]
  go_upto_region 4 with (fail)
  clear z0
  have z1:W0.cell? ⟨b0+1,1,none⟩=some (.int .i64 c.a):=X0.o.cell 1 rfl 1 rfl
  have z2:W0.cell? ⟨b0+1,2,none⟩=some (.int .i64 c.b):=X0.o.cell 1 rfl 2 rfl
  go_wp2_with (refine led_load (X0.o.get 0 rfl) LC.o rfl rfl rfl ?_)
  refine CC.o.mono ?_
  rintro e w2 ⟨U,rfl,own,hb⟩
  have OW:=zq own
  have A2:=zq (X0.o.go hb)
  have LU:=zq (ledc own.led)
  have A3:=zq (A2.o.setRow 3 rfl (U.cells M))
  have A4:=zq (A3.o.setRow 2 rfl (U.cells M))
  have S0:=zq (show b0+1+1+1<W0.heap.size /\ w.heap.size <= W0.heap.size from ⟨X0.o.lt (b0+1+1+1, 31,led0) (by simp),X0.o.low.size⟩)
  unfold LedV.val
  clear own hb z1 z2
  go_simp
  go_wp2_with (first|refine led_store (A2.o.get 3 rfl) ledc0 LU.o rfl rfl rfl rfl ?_|refine led_load (A3.o.get 3 rfl) LU.o rfl rfl rfl ?_|refine led_store (A3.o.get 2 rfl) ledc0 LU.o rfl rfl rfl rfl ?_)
  refine bodyPost_ret (led_res2 rfl _ _ (b0+1+1) _ rfl (A4.o.get 2 rfl) LU.o) rfl ⟨U,rfl,?_,A4.o.low⟩
  refine LedOwn.base ((OW.o.mod (mod_setRow' (w:=w2) (b0+1+1+1) _) (fun k hk _ e=>by have:=S0.o;omega)).mod (mod_setRow' (b0+1+1) _) (fun k hk _ e=>by have:=S0.o;omega)) S0.o.2
 ·skip
  have hb7:bits .and .i64 c.kind 7=7:=by rw[and7];exact KK.o.1.symm
  obtain⟨M,num,er,hM⟩:∃ M num er,admA L (admS L 7 c.a c.b c.c c.u c.i)=(M,num,er):=⟨_,_,_,rfl⟩
  have CC:=zq (C7.o W0 X0.o.low)
  have hM':admA L (reserveS L c.a c.b c.c)=(M,num,er):=hM
  rw[hM'] at CC
  rw[hM]
  clear C0 C1 C2 C3 C4 C5 C6 C7 KK hM hM'
  go_enter Tryz.func31,Tryz.ntmps31
  go_upto_region 2 with (fail)
  rw[<- HB.o,<- HW.o]
  go_upto_region 4 with (fail)
  clear z0
  have z1:W0.cell? ⟨b0+1,1,none⟩=some (.int .i64 c.a):=X0.o.cell 1 rfl 1 rfl
  have z2:W0.cell? ⟨b0+1,2,none⟩=some (.int .i64 c.b):=X0.o.cell 1 rfl 2 rfl
  have z3:W0.cell? ⟨b0+1,3,none⟩=some (.int .i64 c.c):=X0.o.cell 1 rfl 3 rfl
  go_wp2_with (refine led_load (X0.o.get 0 rfl) LC.o rfl rfl rfl ?_)
  refine CC.o.mono ?_
  rintro e w2 ⟨U,rfl,own,hb⟩
  have OW:=zq own
  have A2:=zq (X0.o.go hb)
  have LU:=zq (ledc own.led)
  have A3:=zq (A2.o.setRow 3 rfl (U.cells M))
  have A4:=zq (A3.o.setRow 2 rfl (U.cells M))
  have S0:=zq (show b0+1+1+1<W0.heap.size /\ w.heap.size <= W0.heap.size from ⟨X0.o.lt (b0+1+1+1, 31,led0) (by simp),X0.o.low.size⟩)
  unfold LedV.val
  clear own hb z1 z2 z3
  go_simp
  go_wp2_with (first|refine led_store (A2.o.get 3 rfl) ledc0 LU.o rfl rfl rfl rfl ?_|refine led_load (A3.o.get 3 rfl) LU.o rfl rfl rfl ?_|refine led_store (A3.o.get 2 rfl) ledc0 LU.o rfl rfl rfl rfl ?_)
  refine bodyPost_ret (led_res2 rfl _ _ (b0+1+1) _ rfl (A4.o.get 2 rfl) LU.o) rfl ⟨U,rfl,?_,A4.o.low⟩
  refine LedOwn.base ((OW.o.mod (mod_setRow' (w:=w2) (b0+1+1+1) _) (fun k hk _ e=>by have:=S0.o;omega)).mod (mod_setRow' (b0+1+1) _) (fun k hk _ e=>by have:=S0.o;omega)) S0.o.2
end Go.Proofs.YtnkpdfjnjmmleaaGreatDoor
