/- No call takes an account away. No program is named. -/
import Derived.Test.YtnkpdfjnjmmleaaGreatDoorGm
set_option linter.unusedVariables false
set_option linter.unusedSimpArgs false
namespace Go.Bw
open Classical
theorem admS_len {L:Led} {k:Nat} {A B C:Int} {u:Und} {i:Ins} (he:(admS L k A B C u i).err=0):L.accts.length <= (admS L k A B C u i).led.accts.length:=by
 match k,he with
 | 0,he =>
   show _ <= (priceS L A B C).led.accts.length
   have he:(priceS L A B C).err=0:=he
   unfold priceS at he ⊢
   split <;> (try split) <;> first|exact Nat.le_refl _|(exfalso;simp_all [Adm.no];done)|(simp[Adm.no] at he)
 | 1,he =>
   show _ <= (rateS L A B C).led.accts.length
   have he:(rateS L A B C).err=0:=he
   by_cases h:A<L.curs.length
   ·unfold rateS at he ⊢
    rw[if_pos h] at he ⊢
    split
    ·exact Nat.le_refl _
    ·rename_i h1;rw[if_neg h1] at he;exact absurd (no_err he) (by decide)
   ·rw[(rateS_new h he).2.2]
    simp[Led.newCur]
 | 2,he =>
   show _ <= (cashS L A B C).led.accts.length
   have he:(cashS L A B C).err=0:=he
   unfold cashS at he ⊢
   by_cases h1:0 <= A /\ A<L.accts.length
   ·rw[if_pos h1] at he ⊢
    by_cases h2:0 <= B /\ B<L.curs.length
    ·rw[if_pos h2] at he ⊢
     by_cases h3:(cashA L A B C).2=0
     ·rw[if_pos h3];simp
     ·rw[if_neg h3] at he;exact absurd (no_err he) h3
    ·rw[if_neg h2] at he;exact absurd (no_err he) (by decide)
   ·rw[if_neg h1] at he;exact absurd (no_err he) (by decide)
 | 3,he =>
   show _ <= (accountS L A).led.accts.length
   rw[accountS_ok he]
   simp[Led.newAcc]
 | 4,he =>
   show _ <= (underS L u).led.accts.length
   rw[(underS_ok he).2]
   exact Nat.le_refl _
 | 5,he =>
   show _ <= (instrS L i).led.accts.length
   rw[instrS_ok he]
   exact Nat.le_refl _
 | 6,he =>
   show _ <= (supplyS L A B).led.accts.length
   obtain⟨as,e⟩:=supplyS_ok he
   rw[e]
   exact Nat.le_refl _
 | k+7,he =>
   show _ <= (reserveS L A B C).led.accts.length
   obtain⟨as,ps,e⟩:=reserveS_ok he
   rw[e]
   exact Nat.le_refl _
end Go.Bw
