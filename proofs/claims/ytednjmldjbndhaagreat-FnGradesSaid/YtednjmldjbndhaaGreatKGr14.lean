/- The span of an interval: the reference's searches. Condition: the units are in range. -/
import Derived.Test.YtednjmldjbndhaaGreatKGr12
import Derived.Test.YtednjmldjbndhaaGreatKGr13
set_option linter.unusedSimpArgs false
set_option linter.unusedVariables false
set_option maxRecDepth 100000
set_option maxHeartbeats 8000000
namespace Go.Proofs.YtednjmldjbndhaaGreat
open Go.RowKit
theorem l04At_c (n:Int) (w:World) (h:-1000000 ≤ n∧n ≤ 1000000) :
  Calls Tryz.prog 233 #[.int .i64 n] w fun e w'=>e=.returned (.agg #[.int .i64 (numD n),.int .i64 (numT n)])∧Below w.heap.size w w':=by
 have H1:=fun W=>Lib.hid (l01Mod_c n 9000 W (by omega) (by omega))
 have H2:=fun W=>Lib.hid (l01Floor_c n 9000 W (by omega) (by omega))
 unfold numD numT
 have hb:0 ≤ n % 9000∧n % 9000 < 9000:=by omega
 generalize n % 9000=r at *
 generalize n / 9000=q at *
 go_enter Tryz.func233,Tryz.ntmps233
 go_wp2_with (first | (go_at_call 125;refine (H1 _).out.mono ?_;rintro e w1 ⟨rfl,rfl⟩) | (go_at_call 207;refine (H2 _).out.mono ?_;rintro e w1 ⟨rfl,rfl⟩))
 refine bodyPost_ret (v:=.agg #[.int .i64 (1000+r),.int .i64 q]) (by simp [results,Tryz.results233,go_sem]) rfl ⟨rfl,(by repeat first | with_reducible (first | exact Below.refl _ _ | apply below_drewN' | apply Below.drew | refine Below.alloc ?_ ?_ _ | refine Below.setCell ?_ ?_ _) | exact Below.refl _ _ | omega | (simp <;> omega) | (have:=(Below.refl _ _).size;first | omega | (simp <;> omega)))⟩
theorem l04HoldsH_c (d t u:Int) (w:World) (hd:1000 ≤ d∧d ≤ 9999) (ht:-30 ≤ t∧t ≤ 30) :
  Calls Tryz.prog 236 #[.agg #[.int .i64 d,.int .i64 t],.int .i64 u,.bool true] w fun e w'=>e=.returned (.bool (decide (u < figHi d t)))∧Below w.heap.size w w':=by
 have HF:=fun W=>Lib.hid (l03Figure_c ⟨d,t⟩ W hd ht)
 unfold Figure.agg at HF
 simp only at HF
 unfold figHi
 have hfl:∀ (x y:Value) (w:World),(Instr.field 186 (.agg #[x,y]) 1).run Tryz.prog w=.ok y w:=fun x y w=>by simp [Instr.field,go_sem,asAgg]
 generalize logLow (d * 100000)+t * 1048576=lo at *
 generalize logHigh (d * 100000)+t * 1048576=hi at *
 go_enter Tryz.func236,Tryz.ntmps236
 go_wp2_with fail
 refine (HF _).out.mono ?_;rintro e w1 ⟨rfl,hb1⟩
 go_wp2
 go_ret
 exact ⟨rfl,((Below.refl _ _).alloc (Nat.le_refl _) _).trans (hb1.mono (by first | (simp;done) | (simp;omega) | omega))⟩
theorem l04HoldsL_c (d t u:Int) (w:World) (hd:1000 ≤ d∧d ≤ 9999) (ht:-30 ≤ t∧t ≤ 30) :
  Calls Tryz.prog 236 #[.agg #[.int .i64 d,.int .i64 t],.int .i64 u,.bool false] w fun e w'=>e=.returned (.bool (decide (u ≤ figLo d t)))∧Below w.heap.size w w':=by
 have HF:=fun W=>Lib.hid (l03Figure_c ⟨d,t⟩ W hd ht)
 unfold Figure.agg at HF
 simp only at HF
 unfold figLo
 have hfl:∀ (x y:Value) (w:World),(Instr.field 186 (.agg #[x,y]) 0).run Tryz.prog w=.ok x w:=fun x y w=>by simp [Instr.field,go_sem,asAgg]
 generalize logLow (d * 100000)+t * 1048576=lo at *
 generalize logHigh (d * 100000)+t * 1048576=hi at *
 go_enter Tryz.func236,Tryz.ntmps236
 go_wp2_with fail
 refine (HF _).out.mono ?_;rintro e w1 ⟨rfl,hb1⟩
 go_wp2
 go_ret
 exact ⟨rfl,((Below.refl _ _).alloc (Nat.le_refl _) _).trans (hb1.mono (by first | (simp;done) | (simp;omega) | omega))⟩
theorem l04First_c (u N:Int) (b:Bool) (w:World) (hN:-270000 ≤ N∧N ≤ 278000)
  (HH:∀ (n:Int) W,-270000 ≤ n→n ≤ 278999→Calls Tryz.prog 236 #[.agg #[.int .i64 (numD n),.int .i64 (numT n)],.int .i64 u,.bool b] W fun e w'=>e=.returned (.bool (decide (N ≤ n)))∧Below W.heap.size W w') :
  Calls Tryz.prog 234 #[.int .i64 u,.bool b] w fun e w'=>e=.returned (.int .i64 N)∧Below w.heap.size w w':=by
 have HP:=Lib.hid HH;clear HH
 have HFl:=fun a (h:-1000000 ≤ a∧a ≤ 1000000) W=>Lib.hid (l01Floor_c a 2 W (by omega) (by omega))
 have HAt:=fun n (h:-1000000 ≤ n∧n ≤ 1000000) W=>Lib.hid (l04At_c n W h)
 obtain ⟨hN1,hN2⟩:=hN
 go_enter Tryz.func234,Tryz.ntmps234
 go_wp2_with fail
 go_loopw [5,6] (fun i j wr=>∃ a b:Int,-270001 ≤ a∧a < N∧N ≤ b∧b ≤ 279000∧i=.int .i64 a∧j=.int .i64 b∧Below w.heap.size w wr) (fun i j _=>(intOf j - intOf i).toNat)
 case atStart=>exact ⟨-270001,279000,by omega,by omega,by omega,by omega,rfl,rfl,Below.refl _ _⟩
 case round =>
  obtain ⟨a,c,ha0,ha,hc,hc0,rfl,rfl,hb⟩:=hrel
  by_cases hlt:c - a > 1
  ·have hF:=HFl (a+c) (by omega)
   obtain ⟨m,hm⟩:∃ m,m=(a+c) / 2:=⟨_,rfl⟩
   rw [← hm] at hF
   have hm1:a < m:=by omega
   have hm2:m < c:=by omega
   have hA:=HAt m (by omega)
   have hcall:=HP.out m
   clear hm HFl HAt
   by_cases hNm:N ≤ m
   ·rw [decide_eq_true hNm] at hcall
    have hcall:=fun W=>Lib.hid (hcall W (by omega) (by omega))
    go_wp2_with (first | (go_at_call 207;refine (hF _).out.mono ?_;rintro e w1 ⟨rfl,rfl⟩))
    refine (hA _).out.mono ?_;rintro e w1 ⟨rfl,hb1⟩
    have hB1:=hb.trans (hb1.mono hb.size)
    go_wp2_with (first | (go_at_call 236;refine (hcall _).out.mono ?_;rintro e w2 ⟨rfl,hb2⟩))
    go_roundw
    case rel=>exact ⟨a,m,ha0,ha,hNm,by omega,rfl,rfl,hB1.trans (hb2.mono hB1.size)⟩
    case measure=>simp [intOf];omega
   ·rw [decide_eq_false hNm] at hcall
    have hcall:=fun W=>Lib.hid (hcall W (by omega) (by omega))
    have hNm:m < N:=by omega
    go_wp2_with (first | (go_at_call 207;refine (hF _).out.mono ?_;rintro e w1 ⟨rfl,rfl⟩))
    refine (hA _).out.mono ?_;rintro e w1 ⟨rfl,hb1⟩
    have hB1:=hb.trans (hb1.mono hb.size)
    go_wp2_with (first | (go_at_call 236;refine (hcall _).out.mono ?_;rintro e w2 ⟨rfl,hb2⟩))
    go_roundw
    case rel=>exact ⟨m,c,by omega,hNm,hc,hc0,rfl,rfl,hB1.trans (hb2.mono hB1.size)⟩
    case measure=>simp [intOf];omega
  ·have:c=N:=by omega
   subst this
   clear HP HFl HAt
   go_wp2
   go_ret
   exact ⟨rfl,hb⟩
theorem l04Below_c (u:Int) (w:World) (hu:unitsB u=true) :
  Calls Tryz.prog 217 #[.int .i64 u] w fun e w'=>e=.returned (.agg #[.int .i64 (numD (belN u - 1)),.int .i64 (numT (belN u - 1))])∧Below w.heap.size w w':=by
 have hN:=belN_bd hu
 have HF:=fun W=>Lib.hid (l04First_c u (belN u) true W (by omega) (fun n W h1 h2=>by
  have:=l04HoldsH_c (numD n) (numT n) u W (numD_bd n) (by unfold numT;omega)
  have e:decide (u < figHi (numD n) (numT n))=decide (belN u ≤ n):=by
   rw [decide_eq_decide]
   constructor
   ·intro h
    rcases (by omega:n < belN u ∨ belN u ≤ n) with h3 | h3
    ·have:=belN_lo h3
     unfold hiN at this
     omega
    ·exact h3
   ·exact fun h=>belN_hi h
  rw [e] at this
  exact this))
 have HA:=fun W=>Lib.hid (l04At_c (belN u - 1) W (by omega))
 generalize belN u=N at *
 clear hu
 go_enter Tryz.func217,Tryz.ntmps217
 go_wp2_with fail
 refine (HF _).out.mono ?_;rintro e w1 ⟨rfl,hb1⟩
 have hB1:Below w.heap.size w w1:=((Below.refl _ _).alloc (Nat.le_refl _) _).trans (hb1.mono (by first | (simp;done) | (simp;omega) | omega))
 have B1:=(Blk.new w 51 #[.int .i64 0,.int .i64 0]).below hb1 (by first | (simp;done) | (simp;omega) | omega)
 go_wp2_with fail
 refine (HA _).out.mono ?_;rintro e w2 ⟨rfl,hb2⟩
 have hB2:=hB1.trans (hb2.mono hB1.size)
 have B2:=B1.below hb2 B1.lt
 have hs2:=hB2.size
 have z2:=B2.lt
 have r0:w2.cell? ⟨w.heap.size,0,none⟩=some (.int .i64 0):=B2.cell 0
 have r1:w2.cell? ⟨w.heap.size,1,none⟩=some (.int .i64 0):=B2.cell 1
 have f0:=B2.frozen 0
 have f1:=B2.frozen 1
 go_wp2
 refine bodyPost_ret (v:=.agg #[.int .i64 (numD (N - 1)),.int .i64 (numT (N - 1))]) (by simp [results,Tryz.results217,go_sem,r0,r1]) rfl ⟨rfl,(by repeat first | with_reducible (first | exact hB2 | apply below_drewN' | apply Below.drew | refine Below.alloc ?_ ?_ _ | refine Below.setCell ?_ ?_ _) | exact hB2 | omega | (simp <;> omega) | (have:=(hB2).size;first | omega | (simp <;> omega)))⟩
theorem aboN_bd {u:Int} (h:unitsB u=true):-270000 ≤ aboN u∧aboN u ≤ 278000:=by
 have h0:=unitsB_bd h
 have h2:=aboI_le u
 have h3:=aboN_hi (u:=u) (n:=270000)
 unfold aboN at *
 by_cases ht:u / 1048576=30
 ·have hu:u=31457280:=by omega
  have:aboI u=0:=by
   rcases Nat.eq_zero_or_pos (aboI u) with h4 | h4
   ·exact h4
   ·have h5:=aboI_lo (u:=u) h4
    unfold aboP figLo at h5
    simp only [decide_eq_false_iff_not] at h5
    have h6:=logLow_bd (x:=(1000+((0:Nat):Int)) * 100000) (by omega)
    omega
  omega
 ·omega
theorem l04Above_c (u:Int) (w:World) (hu:unitsB u=true) :
  Calls Tryz.prog 218 #[.int .i64 u] w fun e w'=>e=.returned (.agg #[.int .i64 (numD (aboN u)),.int .i64 (numT (aboN u))])∧Below w.heap.size w w':=by
 have hN:=aboN_bd hu
 have HF:=fun W=>Lib.hid (l04First_c u (aboN u) false W (by omega) (fun n W h1 h2=>by
  have:=l04HoldsL_c (numD n) (numT n) u W (numD_bd n) (by unfold numT;omega)
  have e:decide (u ≤ figLo (numD n) (numT n))=decide (aboN u ≤ n):=by
   rw [decide_eq_decide]
   constructor
   ·intro h
    rcases (by omega:n < aboN u ∨ aboN u ≤ n) with h3 | h3
    ·have:=aboN_lo h3
     unfold loN at this
     omega
    ·exact h3
   ·exact fun h=>aboN_hi h
  rw [e] at this
  exact this))
 have HA:=fun W=>Lib.hid (l04At_c (aboN u) W (by omega))
 generalize aboN u=N at *
 clear hu
 go_enter Tryz.func218,Tryz.ntmps218
 go_wp2_with fail
 refine (HF _).out.mono ?_;rintro e w1 ⟨rfl,hb1⟩
 have hB1:Below w.heap.size w w1:=((Below.refl _ _).alloc (Nat.le_refl _) _).trans (hb1.mono (by first | (simp;done) | (simp;omega) | omega))
 have B1:=(Blk.new w 51 #[.int .i64 0,.int .i64 0]).below hb1 (by first | (simp;done) | (simp;omega) | omega)
 go_wp2_with fail
 refine (HA _).out.mono ?_;rintro e w2 ⟨rfl,hb2⟩
 have hB2:=hB1.trans (hb2.mono hB1.size)
 have B2:=B1.below hb2 B1.lt
 have hs2:=hB2.size
 have z2:=B2.lt
 have r0:w2.cell? ⟨w.heap.size,0,none⟩=some (.int .i64 0):=B2.cell 0
 have r1:w2.cell? ⟨w.heap.size,1,none⟩=some (.int .i64 0):=B2.cell 1
 have f0:=B2.frozen 0
 have f1:=B2.frozen 1
 go_wp2
 refine bodyPost_ret (v:=.agg #[.int .i64 (numD N),.int .i64 (numT N)]) (by simp [results,Tryz.results218,go_sem,r0,r1]) rfl ⟨rfl,(by repeat first | with_reducible (first | exact hB2 | apply below_drewN' | apply Below.drew | refine Below.alloc ?_ ?_ _ | refine Below.setCell ?_ ?_ _) | exact hB2 | omega | (simp <;> omega) | (have:=(hB2).size;first | omega | (simp <;> omega)))⟩
end Go.Proofs.YtednjmldjbndhaaGreat
