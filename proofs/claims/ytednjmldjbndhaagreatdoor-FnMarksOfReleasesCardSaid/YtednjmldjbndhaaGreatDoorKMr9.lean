/- Whether a formula and a chart are valid: the program's and the reference's. Conditions: the lengths. -/
import Derived.BigQuiet
import Derived.Test.YtednjmldjbndhaaGreatDoorKMr2
import Derived.Test.YtednjmldjbndhaaGreatDoorKMr8
set_option linter.unusedSimpArgs false
set_option linter.unusedVariables false
set_option maxRecDepth 100000
set_option maxHeartbeats 8000000
namespace Go.Proofs.YtednjmldjbndhaaGreatDoor
open Go.RowKit
theorem letB_eq {s:ByteArray} {l:List Int} {k:Nat} (hs:k < s.size) (hl:k < l.length):letB s l k=(decide (97 ≤ (s[k].toNat:Int)) && decide ((s[k].toNat:Int) ≤ 122) && (decide (k=0) || decide (chAt s (k - 1) < (s[k].toNat:Int))) && !decide (l[k]=0) && inB l[k] (-6) 6):=by
 unfold letB
 rw [chAt_eq hs,List.getD_eq_getElem?_getD,List.getElem?_eq_getElem hl]
 rfl
theorem implIsFormula_c (fd ft:Int) (s:ByteArray) (A:Option Addr) (c:Nat) (l:List Int) (w:World) (hsz:s.size ≤ 1048576) (hl:l.length ≤ 1048576) (hs:Sl w w.heap.size 1 A (l.map ic)) :
  Calls Tryz.prog 106 #[.agg #[.int .i64 fd,.int .i64 ft,.string s,.slice A l.length c]] w fun e w'=>e=.returned (.bool (formB fd ft s l))∧Below w.heap.size w w':=by
 have HF0:=fun W=>implIsFigure_c ⟨fd,ft⟩ W
 unfold Figure.agg at HF0
 have hW:Below w.heap.size w (w.alloc (.cells #[.int .i64 fd,.int .i64 ft,.string s,.slice A l.length c] 29)):=(by repeat first | with_reducible (first | exact Below.refl _ _ | apply below_drewN' | apply Below.drew | refine Below.alloc ?_ ?_ _ | refine Below.setCell ?_ ?_ _) | exact Below.refl _ _ | omega | (simp <;> omega) | (have:=(Below.refl _ _).size;first | omega | (simp <;> omega)))
 have B0:=Blk.new w 29 #[.int .i64 fd,.int .i64 ft,.string s,.slice A l.length c]
 cases hf:figOK ⟨fd,ft⟩ with
 | false =>
  have hR:Hid (formB fd ft s l=false):=by unfold Hid formB;rw [hf];rfl
  rw [hf] at HF0
  have HF:=fun W=>Lib.hid (HF0 W)
  clear HF0 hf hs
  go_enter Tryz.func106,Tryz.ntmps106
  go_wp2_with fail
  refine Calls.mono (HF _).out ?_;rintro e w1 ⟨rfl,hb1⟩
  have hW1:=hW.trans (hb1.mono hW.size)
  go_wp2
  go_ret
  exact ⟨by rw [hR.out];rfl,(by repeat first | with_reducible (first | exact hW1 | apply below_drewN' | apply Below.drew | refine Below.alloc ?_ ?_ _ | refine Below.setCell ?_ ?_ _) | exact hW1 | omega | (simp <;> omega) | (have:=(hW1).size;first | omega | (simp <;> omega)))⟩
 | true =>
  rw [hf] at HF0
  have HF:=fun W=>Lib.hid (HF0 W)
  clear HF0
  by_cases h6:s.size ≤ 6
  ·by_cases hls:l.length=s.size
   ·have hR:Hid (formB fd ft s l=(List.range l.length).all (letB s l)):=by unfold Hid formB;rw [hf,decide_eq_true h6,decide_eq_true hls];rfl
    have hn6:¬ (6:Int) < (s.size:Int):=by omega
    have hLS:=Lib.hid hls
    have hq1:((l.length:Int) != (s.size:Int))=false:=by simp [hls]
    have hq2:((s.size:Int) != (l.length:Int))=false:=by simp [hls]
    have hq3:((l.length:Int) == (s.size:Int))=true:=by simp [hls]
    have hq4:((s.size:Int) == (l.length:Int))=true:=by simp [hls]
    clear hf hls
    go_enter Tryz.func106,Tryz.ntmps106
    go_wp2_with fail
    generalize w.alloc (.cells #[.int .i64 fd,.int .i64 ft,.string s,.slice A l.length c] 29)=W at *
    refine Calls.mono (HF _).out ?_;rintro e w1 ⟨rfl,hb1⟩
    have hW1:=hW.trans (hb1.mono hW.size)
    have B1:=B0.below hb1 B0.lt
    have y2:w1.cell? ⟨w.heap.size,2,none⟩=some (.string s):=B1.cell 2
    have y3:w1.cell? ⟨w.heap.size,3,none⟩=some (.slice A l.length c):=B1.cell 3
    clear hW B0 hb1 HF
    go_wp2_with fail
    clear y2 y3
    go_loopw [27] (fun i wr=>∃ k:Nat,k ≤ l.length∧i=.int .i64 k∧Below w1.heap.size w1 wr∧Hid ((List.range k).all (letB s l)=true)) (fun i _=>l.length - (intOf i).toNat)
    case atStart=>exact ⟨0,Nat.zero_le _,rfl,Below.refl _ _,(show (List.range 0).all (letB s l)=true from rfl)⟩
    case round =>
     obtain ⟨k,hk,rfl,hb,hok⟩:=hrel
     have hWr:=hW1.trans (hb.mono hW1.size)
     have Br:=B1.below hb B1.lt
     have y2:wr.cell? ⟨w.heap.size,2,none⟩=some (.string s):=Br.cell 2
     have y3:wr.cell? ⟨w.heap.size,3,none⟩=some (.slice A l.length c):=Br.cell 3
     by_cases hlt:k < l.length
     ·have hks:k < s.size:=by have:=hLS.out;omega
      obtain ⟨b,off,rfl,hbB,c0⟩:=hs.int hlt
      have c0:wr.cell? ⟨b,off+k,none⟩=some (.int .i64 l[k]):=by rw [hWr.cell hbB];exact c0
      have hle:=letB_eq hks hlt
      have hbad:=fun h=>Lib.hid (letters_bad (s:=s) hlt h)
      have hnx:=fun h=>Lib.hid (letters_next (l:=l) h hok.out)
      have hWi:=fun W=>within_c l[k] (-6) 6 W
      generalize l[k]=n at *
      generalize hch:(s[k].toNat:Int)=ch at *
      by_cases h1:ch < 97
      ·have d1:decide (ch < 97)=true:=decide_eq_true h1
       have hx:decide (97 ≤ ch)=false:=decide_eq_false (by omega)
       have HWi:=fun W=>Lib.hid (hWi W)
       clear hWi
       rw [hx] at hle
       have hB:=hbad (by rw [hle];rfl)
       clear hbad hnx hle
       go_wp2_with fail
       go_quiet (first | (go_at_call 66;refine Calls.quiet_of_same ((HWi _).out.mono fun _ _ ⟨h1,h2⟩=>⟨h1,h2.symm⟩)))
       go_wp2
       go_ret
       exact ⟨by rw [hR.out,hB.out];rfl,(by repeat first | with_reducible (first | exact hWr | apply below_drewN' | apply Below.drew | refine Below.alloc ?_ ?_ _ | refine Below.setCell ?_ ?_ _) | exact hWr | omega | (simp <;> omega) | (have:=(hWr).size;first | omega | (simp <;> omega)))⟩
      ·have d1:decide (ch < 97)=false:=decide_eq_false h1
       have hx1:decide (97 ≤ ch)=true:=decide_eq_true (by omega)
       rw [hx1] at hle
       by_cases h2:122 < ch
       ·have d2:decide (122 < ch)=true:=decide_eq_true h2
        have hx:decide (ch ≤ 122)=false:=decide_eq_false (by omega)
        have HWi:=fun W=>Lib.hid (hWi W)
        clear hWi
        rw [hx] at hle
        have hB:=hbad (by rw [hle];rfl)
        clear hbad hnx hle
        go_wp2_with fail
        go_quiet (first | (go_at_call 66;refine Calls.quiet_of_same ((HWi _).out.mono fun _ _ ⟨h1,h2⟩=>⟨h1,h2.symm⟩)))
        go_wp2
        go_ret
        exact ⟨by rw [hR.out,hB.out];rfl,(by repeat first | with_reducible (first | exact hWr | apply below_drewN' | apply Below.drew | refine Below.alloc ?_ ?_ _ | refine Below.setCell ?_ ?_ _) | exact hWr | omega | (simp <;> omega) | (have:=(hWr).size;first | omega | (simp <;> omega)))⟩
       ·have d2:decide (122 < ch)=false:=decide_eq_false h2
        have hx2:decide (ch ≤ 122)=true:=decide_eq_true (by omega)
        rw [hx2] at hle
        clear hx1 hx2
        by_cases hk0:k=0
        ·subst hk0
         have c0z:wr.cell? ⟨b,off,none⟩=some (.int .i64 n):=by simpa using c0
         clear c0
         have d3:decide ((0:Int) < ((0:Nat):Int))=false:=rfl
         simp only [decide_true,Bool.true_or,Bool.and_true,Bool.true_and] at hle
         by_cases h4:n=0
         ·subst h4
          have HWi:=fun W=>Lib.hid (hWi W)
          clear hWi
          have hB:=hbad (by rw [hle];simp)
          clear hbad hnx hle
          go_wp2_with fail
          go_quiet (first | (go_at_call 66;refine Calls.quiet_of_same ((HWi _).out.mono fun _ _ ⟨h1,h2⟩=>⟨h1,h2.symm⟩)))
          go_wp2
          go_ret
          exact ⟨by rw [hR.out,hB.out];rfl,(by repeat first | with_reducible (first | exact hWr | apply below_drewN' | apply Below.drew | refine Below.alloc ?_ ?_ _ | refine Below.setCell ?_ ?_ _) | exact hWr | omega | (simp <;> omega) | (have:=(hWr).size;first | omega | (simp <;> omega)))⟩
         ·have d4:(n == 0)=false:=by simpa using h4
          cases h5:inB n (-6) 6 with
          | false =>
           rw [h5] at hWi hle
           have HWi:=fun W=>Lib.hid (hWi W)
           clear hWi h5
           have hB:=hbad (by rw [hle];simp)
           clear hbad hnx hle
           go_wp2_with fail
           go_quiet (first | (go_at_call 66;refine Calls.quiet_of_same ((HWi _).out.mono fun _ _ ⟨h1,h2⟩=>⟨h1,h2.symm⟩)))
           go_wp2
           go_ret
           exact ⟨by rw [hR.out,hB.out];rfl,(by repeat first | with_reducible (first | exact hWr | apply below_drewN' | apply Below.drew | refine Below.alloc ?_ ?_ _ | refine Below.setCell ?_ ?_ _) | exact hWr | omega | (simp <;> omega) | (have:=(hWr).size;first | omega | (simp <;> omega)))⟩
          | true =>
           rw [h5] at hWi hle
           have HWi:=fun W=>Lib.hid (hWi W)
           clear hWi h5
           have hN:=hnx (by rw [hle];simp [h4])
           clear hbad hnx hle
           go_wp2_with fail
           go_quiet (first | (go_at_call 66;refine Calls.quiet_of_same ((HWi _).out.mono fun _ _ ⟨h1,h2⟩=>⟨h1,h2.symm⟩)))
           go_wp2
           go_roundw
           case rel=>exact ⟨0+1,by omega,by go_num,(by repeat first | with_reducible (first | exact hb | apply below_drewN' | apply Below.drew | refine Below.alloc ?_ ?_ _ | refine Below.setCell ?_ ?_ _) | exact hb | omega | (simp <;> omega) | (have:=(hb).size;first | omega | (simp <;> omega))),hN⟩
           case measure=>simp [intOf];omega
        ·obtain ⟨j,rfl⟩:∃ j,k=j+1:=⟨k - 1,by omega⟩
         have hjs:j < s.size:=by omega
         have hcj:chAt s (j+1 - 1)=(s[j].toNat:Int):=by rw [Nat.add_sub_cancel];exact chAt_eq hjs
         rw [hcj] at hle
         generalize hcp:(s[j].toNat:Int)=cp at *
         clear hcj
         have d3:decide ((0:Int) < ((j+1:Nat):Int))=true:=decide_eq_true (by omega)
         have d3':(0:Int) < ((j+1:Nat):Int):=by omega
         by_cases h3:ch ≤ cp
         ·have d5:decide (ch ≤ cp)=true:=decide_eq_true h3
          have hx:decide (cp < ch)=false:=decide_eq_false (by omega)
          have HWi:=fun W=>Lib.hid (hWi W)
          clear hWi
          rw [hx] at hle
          have hB:=hbad (by rw [hle];simp)
          clear hbad hnx hle
          go_wp2_with fail
          go_quiet (first | (go_at_call 66;refine Calls.quiet_of_same ((HWi _).out.mono fun _ _ ⟨h1,h2⟩=>⟨h1,h2.symm⟩)))
          go_wp2
          go_ret
          exact ⟨by rw [hR.out,hB.out];rfl,(by repeat first | with_reducible (first | exact hWr | apply below_drewN' | apply Below.drew | refine Below.alloc ?_ ?_ _ | refine Below.setCell ?_ ?_ _) | exact hWr | omega | (simp <;> omega) | (have:=(hWr).size;first | omega | (simp <;> omega)))⟩
         ·have d5:decide (ch ≤ cp)=false:=decide_eq_false h3
          have hx:decide (cp < ch)=true:=decide_eq_true (by omega)
          rw [hx] at hle
          clear hx
          by_cases h4:n=0
          ·subst h4
           have HWi:=fun W=>Lib.hid (hWi W)
           clear hWi
           have hB:=hbad (by rw [hle];simp)
           clear hbad hnx hle
           go_wp2_with fail
           go_quiet (first | (go_at_call 66;refine Calls.quiet_of_same ((HWi _).out.mono fun _ _ ⟨h1,h2⟩=>⟨h1,h2.symm⟩)))
           go_wp2
           go_ret
           exact ⟨by rw [hR.out,hB.out];rfl,(by repeat first | with_reducible (first | exact hWr | apply below_drewN' | apply Below.drew | refine Below.alloc ?_ ?_ _ | refine Below.setCell ?_ ?_ _) | exact hWr | omega | (simp <;> omega) | (have:=(hWr).size;first | omega | (simp <;> omega)))⟩
          ·have d4:(n == 0)=false:=by simpa using h4
           cases h5:inB n (-6) 6 with
           | false =>
            rw [h5] at hWi hle
            have HWi:=fun W=>Lib.hid (hWi W)
            clear hWi h5
            have hB:=hbad (by rw [hle];simp)
            clear hbad hnx hle
            go_wp2_with fail
            go_quiet (first | (go_at_call 66;refine Calls.quiet_of_same ((HWi _).out.mono fun _ _ ⟨h1,h2⟩=>⟨h1,h2.symm⟩)))
            go_wp2
            go_ret
            exact ⟨by rw [hR.out,hB.out];rfl,(by repeat first | with_reducible (first | exact hWr | apply below_drewN' | apply Below.drew | refine Below.alloc ?_ ?_ _ | refine Below.setCell ?_ ?_ _) | exact hWr | omega | (simp <;> omega) | (have:=(hWr).size;first | omega | (simp <;> omega)))⟩
           | true =>
            rw [h5] at hWi hle
            have HWi:=fun W=>Lib.hid (hWi W)
            clear hWi h5
            have hN:=hnx (by rw [hle];simp [h4])
            clear hbad hnx hle
            go_wp2_with fail
            go_quiet (first | (go_at_call 66;refine Calls.quiet_of_same ((HWi _).out.mono fun _ _ ⟨h1,h2⟩=>⟨h1,h2.symm⟩)))
            go_wp2
            go_roundw
            case rel=>exact ⟨(j+1)+1,by omega,by go_num,(by repeat first | with_reducible (first | exact hb | apply below_drewN' | apply Below.drew | refine Below.alloc ?_ ?_ _ | refine Below.setCell ?_ ?_ _) | exact hb | omega | (simp <;> omega) | (have:=(hb).size;first | omega | (simp <;> omega))),hN⟩
            case measure=>simp [intOf];omega
     ·have:k=l.length:=by omega
      subst this
      have hnl:¬ ((l.length:Int) < (s.size:Int)):=by have:=hLS.out;omega
      have hnl2:decide (l.length < s.size)=false:=by have:=hLS.out;simp;omega
      go_wp2
      go_ret
      exact ⟨by rw [hR.out,hok.out];rfl,(by repeat first | with_reducible (first | exact hWr | apply below_drewN' | apply Below.drew | refine Below.alloc ?_ ?_ _ | refine Below.setCell ?_ ?_ _) | exact hWr | omega | (simp <;> omega) | (have:=(hWr).size;first | omega | (simp <;> omega)))⟩
   ·have hR:Hid (formB fd ft s l=false):=by unfold Hid formB;rw [hf,decide_eq_true h6,decide_eq_false hls];rfl
    have hn6:¬ (6:Int) < (s.size:Int):=by omega
    have hq1:((l.length:Int) != (s.size:Int))=true:=by simp;omega
    have hq2:((s.size:Int) != (l.length:Int))=true:=by simp;omega
    have hq3:¬ s.size=l.length:=by omega
    clear hf hs
    go_enter Tryz.func106,Tryz.ntmps106
    go_wp2_with fail
    generalize w.alloc (.cells #[.int .i64 fd,.int .i64 ft,.string s,.slice A l.length c] 29)=W at *
    refine Calls.mono (HF _).out ?_;rintro e w1 ⟨rfl,hb1⟩
    have hW1:=hW.trans (hb1.mono hW.size)
    have B1:=B0.below hb1 B0.lt
    have y2:w1.cell? ⟨w.heap.size,2,none⟩=some (.string s):=B1.cell 2
    have y3:w1.cell? ⟨w.heap.size,3,none⟩=some (.slice A l.length c):=B1.cell 3
    clear hW B0 hb1 HF
    go_wp2
    go_ret
    exact ⟨by rw [hR.out];rfl,(by repeat first | with_reducible (first | exact hW1 | apply below_drewN' | apply Below.drew | refine Below.alloc ?_ ?_ _ | refine Below.setCell ?_ ?_ _) | exact hW1 | omega | (simp <;> omega) | (have:=(hW1).size;first | omega | (simp <;> omega)))⟩
  ·have hR:Hid (formB fd ft s l=false):=by unfold Hid formB;rw [hf,decide_eq_false h6];rfl
   have hn6:(6:Int) < (s.size:Int):=by omega
   clear hf hs
   go_enter Tryz.func106,Tryz.ntmps106
   go_wp2_with fail
   generalize w.alloc (.cells #[.int .i64 fd,.int .i64 ft,.string s,.slice A l.length c] 29)=W at *
   refine Calls.mono (HF _).out ?_;rintro e w1 ⟨rfl,hb1⟩
   have hW1:=hW.trans (hb1.mono hW.size)
   have B1:=B0.below hb1 B0.lt
   have y2:w1.cell? ⟨w.heap.size,2,none⟩=some (.string s):=B1.cell 2
   have y3:w1.cell? ⟨w.heap.size,3,none⟩=some (.slice A l.length c):=B1.cell 3
   clear hW B0 hb1 HF
   go_wp2
   go_ret
   exact ⟨by rw [hR.out];rfl,(by repeat first | with_reducible (first | exact hW1 | apply below_drewN' | apply Below.drew | refine Below.alloc ?_ ?_ _ | refine Below.setCell ?_ ?_ _) | exact hW1 | omega | (simp <;> omega) | (have:=(hW1).size;first | omega | (simp <;> omega)))⟩
theorem specIsFormula_c (fd ft:Int) (s:ByteArray) (A:Option Addr) (c:Nat) (l:List Int) (w:World) (hsz:s.size ≤ 1048576) (hl:l.length ≤ 1048576) (hs:Sl w w.heap.size 1 A (l.map ic)) :
  Calls Tryz.prog 112 #[.agg #[.int .i64 fd,.int .i64 ft,.string s,.slice A l.length c]] w fun e w'=>e=.returned (.bool (formB fd ft s l))∧Below w.heap.size w w':=by
 have HF0:=fun W=>specIsFigure_c ⟨fd,ft⟩ W
 unfold Figure.agg at HF0
 have hW:Below w.heap.size w (w.alloc (.cells #[.int .i64 fd,.int .i64 ft,.string s,.slice A l.length c] 29)):=(by repeat first | with_reducible (first | exact Below.refl _ _ | apply below_drewN' | apply Below.drew | refine Below.alloc ?_ ?_ _ | refine Below.setCell ?_ ?_ _) | exact Below.refl _ _ | omega | (simp <;> omega) | (have:=(Below.refl _ _).size;first | omega | (simp <;> omega)))
 have B0:=Blk.new w 29 #[.int .i64 fd,.int .i64 ft,.string s,.slice A l.length c]
 cases hf:figOK ⟨fd,ft⟩ with
 | false =>
  have hR:Hid (formB fd ft s l=false):=by unfold Hid formB;rw [hf];rfl
  rw [hf] at HF0
  have HF:=fun W=>Lib.hid (HF0 W)
  clear HF0 hf hs
  go_enter Tryz.func112,Tryz.ntmps112
  go_wp2_with fail
  refine Calls.mono (HF _).out ?_;rintro e w1 ⟨rfl,hb1⟩
  have hW1:=hW.trans (hb1.mono hW.size)
  go_wp2
  go_ret
  exact ⟨by rw [hR.out];rfl,(by repeat first | with_reducible (first | exact hW1 | apply below_drewN' | apply Below.drew | refine Below.alloc ?_ ?_ _ | refine Below.setCell ?_ ?_ _) | exact hW1 | omega | (simp <;> omega) | (have:=(hW1).size;first | omega | (simp <;> omega)))⟩
 | true =>
  rw [hf] at HF0
  have HF:=fun W=>Lib.hid (HF0 W)
  clear HF0
  by_cases h6:s.size ≤ 6
  ·by_cases hls:l.length=s.size
   ·have hR:Hid (formB fd ft s l=(List.range l.length).all (letB s l)):=by unfold Hid formB;rw [hf,decide_eq_true h6,decide_eq_true hls];rfl
    have hn6:¬ (6:Int) < (s.size:Int):=by omega
    have hLS:=Lib.hid hls
    have hq1:((l.length:Int) != (s.size:Int))=false:=by simp [hls]
    have hq2:((s.size:Int) != (l.length:Int))=false:=by simp [hls]
    have hq3:((l.length:Int) == (s.size:Int))=true:=by simp [hls]
    have hq4:((s.size:Int) == (l.length:Int))=true:=by simp [hls]
    clear hf hls
    go_enter Tryz.func112,Tryz.ntmps112
    go_wp2_with fail
    generalize w.alloc (.cells #[.int .i64 fd,.int .i64 ft,.string s,.slice A l.length c] 29)=W at *
    refine Calls.mono (HF _).out ?_;rintro e w1 ⟨rfl,hb1⟩
    have hW1:=hW.trans (hb1.mono hW.size)
    have B1:=B0.below hb1 B0.lt
    have y2:w1.cell? ⟨w.heap.size,2,none⟩=some (.string s):=B1.cell 2
    have y3:w1.cell? ⟨w.heap.size,3,none⟩=some (.slice A l.length c):=B1.cell 3
    clear hW B0 hb1 HF
    go_wp2_with fail
    clear y2 y3
    go_loopw [3] (fun i wr=>∃ k:Nat,k ≤ l.length∧i=.int .i64 k∧Below w1.heap.size w1 wr∧Hid ((List.range k).all (letB s l)=true)) (fun i _=>l.length - (intOf i).toNat)
    case atStart=>exact ⟨0,Nat.zero_le _,rfl,Below.refl _ _,(show (List.range 0).all (letB s l)=true from rfl)⟩
    case round =>
     obtain ⟨k,hk,rfl,hb,hok⟩:=hrel
     have hWr:=hW1.trans (hb.mono hW1.size)
     have Br:=B1.below hb B1.lt
     have y2:wr.cell? ⟨w.heap.size,2,none⟩=some (.string s):=Br.cell 2
     have y3:wr.cell? ⟨w.heap.size,3,none⟩=some (.slice A l.length c):=Br.cell 3
     by_cases hlt:k < l.length
     ·have hks:k < s.size:=by have:=hLS.out;omega
      obtain ⟨b,off,rfl,hbB,c0⟩:=hs.int hlt
      have c0:wr.cell? ⟨b,off+k,none⟩=some (.int .i64 l[k]):=by rw [hWr.cell hbB];exact c0
      have hle:=letB_eq hks hlt
      have hbad:=fun h=>Lib.hid (letters_bad (s:=s) hlt h)
      have hnx:=fun h=>Lib.hid (letters_next (l:=l) h hok.out)
      have hWi:=fun W=>l01In_c l[k] (-6) 6 W
      generalize l[k]=n at *
      generalize hch:(s[k].toNat:Int)=ch at *
      by_cases h1:ch < 97
      ·have d1:decide (ch < 97)=true:=decide_eq_true h1
       have hx:decide (97 ≤ ch)=false:=decide_eq_false (by omega)
       have HWi:=fun W=>Lib.hid (hWi W)
       clear hWi
       rw [hx] at hle
       have hB:=hbad (by rw [hle];rfl)
       clear hbad hnx hle
       go_wp2_with fail
       go_quiet (first | (go_at_call 71;refine Calls.quiet_of_same ((HWi _).out.mono fun _ _ ⟨h1,h2⟩=>⟨h1,h2.symm⟩)))
       go_wp2
       go_ret
       exact ⟨by rw [hR.out,hB.out];rfl,(by repeat first | with_reducible (first | exact hWr | apply below_drewN' | apply Below.drew | refine Below.alloc ?_ ?_ _ | refine Below.setCell ?_ ?_ _) | exact hWr | omega | (simp <;> omega) | (have:=(hWr).size;first | omega | (simp <;> omega)))⟩
      ·have d1:decide (ch < 97)=false:=decide_eq_false h1
       have hx1:decide (97 ≤ ch)=true:=decide_eq_true (by omega)
       rw [hx1] at hle
       by_cases h2:122 < ch
       ·have d2:decide (122 < ch)=true:=decide_eq_true h2
        have hx:decide (ch ≤ 122)=false:=decide_eq_false (by omega)
        have HWi:=fun W=>Lib.hid (hWi W)
        clear hWi
        rw [hx] at hle
        have hB:=hbad (by rw [hle];rfl)
        clear hbad hnx hle
        go_wp2_with fail
        go_quiet (first | (go_at_call 71;refine Calls.quiet_of_same ((HWi _).out.mono fun _ _ ⟨h1,h2⟩=>⟨h1,h2.symm⟩)))
        go_wp2
        go_ret
        exact ⟨by rw [hR.out,hB.out];rfl,(by repeat first | with_reducible (first | exact hWr | apply below_drewN' | apply Below.drew | refine Below.alloc ?_ ?_ _ | refine Below.setCell ?_ ?_ _) | exact hWr | omega | (simp <;> omega) | (have:=(hWr).size;first | omega | (simp <;> omega)))⟩
       ·have d2:decide (122 < ch)=false:=decide_eq_false h2
        have hx2:decide (ch ≤ 122)=true:=decide_eq_true (by omega)
        rw [hx2] at hle
        clear hx1 hx2
        by_cases hk0:k=0
        ·subst hk0
         have c0z:wr.cell? ⟨b,off,none⟩=some (.int .i64 n):=by simpa using c0
         clear c0
         have d3:decide ((0:Int) < ((0:Nat):Int))=false:=rfl
         simp only [decide_true,Bool.true_or,Bool.and_true,Bool.true_and] at hle
         by_cases h4:n=0
         ·subst h4
          have HWi:=fun W=>Lib.hid (hWi W)
          clear hWi
          have hB:=hbad (by rw [hle];simp)
          clear hbad hnx hle
          go_wp2_with fail
          go_quiet (first | (go_at_call 71;refine Calls.quiet_of_same ((HWi _).out.mono fun _ _ ⟨h1,h2⟩=>⟨h1,h2.symm⟩)))
          go_wp2
          go_ret
          exact ⟨by rw [hR.out,hB.out];rfl,(by repeat first | with_reducible (first | exact hWr | apply below_drewN' | apply Below.drew | refine Below.alloc ?_ ?_ _ | refine Below.setCell ?_ ?_ _) | exact hWr | omega | (simp <;> omega) | (have:=(hWr).size;first | omega | (simp <;> omega)))⟩
         ·have d4:(n == 0)=false:=by simpa using h4
          cases h5:inB n (-6) 6 with
          | false =>
           rw [h5] at hWi hle
           have HWi:=fun W=>Lib.hid (hWi W)
           clear hWi h5
           have hB:=hbad (by rw [hle];simp)
           clear hbad hnx hle
           go_wp2_with fail
           go_quiet (first | (go_at_call 71;refine Calls.quiet_of_same ((HWi _).out.mono fun _ _ ⟨h1,h2⟩=>⟨h1,h2.symm⟩)))
           go_wp2
           go_ret
           exact ⟨by rw [hR.out,hB.out];rfl,(by repeat first | with_reducible (first | exact hWr | apply below_drewN' | apply Below.drew | refine Below.alloc ?_ ?_ _ | refine Below.setCell ?_ ?_ _) | exact hWr | omega | (simp <;> omega) | (have:=(hWr).size;first | omega | (simp <;> omega)))⟩
          | true =>
           rw [h5] at hWi hle
           have HWi:=fun W=>Lib.hid (hWi W)
           clear hWi h5
           have hN:=hnx (by rw [hle];simp [h4])
           clear hbad hnx hle
           go_wp2_with fail
           go_quiet (first | (go_at_call 71;refine Calls.quiet_of_same ((HWi _).out.mono fun _ _ ⟨h1,h2⟩=>⟨h1,h2.symm⟩)))
           go_wp2
           go_roundw
           case rel=>exact ⟨0+1,by omega,by go_num,(by repeat first | with_reducible (first | exact hb | apply below_drewN' | apply Below.drew | refine Below.alloc ?_ ?_ _ | refine Below.setCell ?_ ?_ _) | exact hb | omega | (simp <;> omega) | (have:=(hb).size;first | omega | (simp <;> omega))),hN⟩
           case measure=>simp [intOf];omega
        ·obtain ⟨j,rfl⟩:∃ j,k=j+1:=⟨k - 1,by omega⟩
         have hjs:j < s.size:=by omega
         have hcj:chAt s (j+1 - 1)=(s[j].toNat:Int):=by rw [Nat.add_sub_cancel];exact chAt_eq hjs
         rw [hcj] at hle
         generalize hcp:(s[j].toNat:Int)=cp at *
         clear hcj
         have d3:decide ((0:Int) < ((j+1:Nat):Int))=true:=decide_eq_true (by omega)
         have d3':(0:Int) < ((j+1:Nat):Int):=by omega
         by_cases h3:ch ≤ cp
         ·have d5:decide (ch ≤ cp)=true:=decide_eq_true h3
          have hx:decide (cp < ch)=false:=decide_eq_false (by omega)
          have HWi:=fun W=>Lib.hid (hWi W)
          clear hWi
          rw [hx] at hle
          have hB:=hbad (by rw [hle];simp)
          clear hbad hnx hle
          go_wp2_with fail
          go_quiet (first | (go_at_call 71;refine Calls.quiet_of_same ((HWi _).out.mono fun _ _ ⟨h1,h2⟩=>⟨h1,h2.symm⟩)))
          go_wp2
          go_ret
          exact ⟨by rw [hR.out,hB.out];rfl,(by repeat first | with_reducible (first | exact hWr | apply below_drewN' | apply Below.drew | refine Below.alloc ?_ ?_ _ | refine Below.setCell ?_ ?_ _) | exact hWr | omega | (simp <;> omega) | (have:=(hWr).size;first | omega | (simp <;> omega)))⟩
         ·have d5:decide (ch ≤ cp)=false:=decide_eq_false h3
          have hx:decide (cp < ch)=true:=decide_eq_true (by omega)
          rw [hx] at hle
          clear hx
          by_cases h4:n=0
          ·subst h4
           have HWi:=fun W=>Lib.hid (hWi W)
           clear hWi
           have hB:=hbad (by rw [hle];simp)
           clear hbad hnx hle
           go_wp2_with fail
           go_quiet (first | (go_at_call 71;refine Calls.quiet_of_same ((HWi _).out.mono fun _ _ ⟨h1,h2⟩=>⟨h1,h2.symm⟩)))
           go_wp2
           go_ret
           exact ⟨by rw [hR.out,hB.out];rfl,(by repeat first | with_reducible (first | exact hWr | apply below_drewN' | apply Below.drew | refine Below.alloc ?_ ?_ _ | refine Below.setCell ?_ ?_ _) | exact hWr | omega | (simp <;> omega) | (have:=(hWr).size;first | omega | (simp <;> omega)))⟩
          ·have d4:(n == 0)=false:=by simpa using h4
           cases h5:inB n (-6) 6 with
           | false =>
            rw [h5] at hWi hle
            have HWi:=fun W=>Lib.hid (hWi W)
            clear hWi h5
            have hB:=hbad (by rw [hle];simp)
            clear hbad hnx hle
            go_wp2_with fail
            go_quiet (first | (go_at_call 71;refine Calls.quiet_of_same ((HWi _).out.mono fun _ _ ⟨h1,h2⟩=>⟨h1,h2.symm⟩)))
            go_wp2
            go_ret
            exact ⟨by rw [hR.out,hB.out];rfl,(by repeat first | with_reducible (first | exact hWr | apply below_drewN' | apply Below.drew | refine Below.alloc ?_ ?_ _ | refine Below.setCell ?_ ?_ _) | exact hWr | omega | (simp <;> omega) | (have:=(hWr).size;first | omega | (simp <;> omega)))⟩
           | true =>
            rw [h5] at hWi hle
            have HWi:=fun W=>Lib.hid (hWi W)
            clear hWi h5
            have hN:=hnx (by rw [hle];simp [h4])
            clear hbad hnx hle
            go_wp2_with fail
            go_quiet (first | (go_at_call 71;refine Calls.quiet_of_same ((HWi _).out.mono fun _ _ ⟨h1,h2⟩=>⟨h1,h2.symm⟩)))
            go_wp2
            go_roundw
            case rel=>exact ⟨(j+1)+1,by omega,by go_num,(by repeat first | with_reducible (first | exact hb | apply below_drewN' | apply Below.drew | refine Below.alloc ?_ ?_ _ | refine Below.setCell ?_ ?_ _) | exact hb | omega | (simp <;> omega) | (have:=(hb).size;first | omega | (simp <;> omega))),hN⟩
            case measure=>simp [intOf];omega
     ·have:k=l.length:=by omega
      subst this
      have hnl:¬ ((l.length:Int) < (s.size:Int)):=by have:=hLS.out;omega
      have hnl2:decide (l.length < s.size)=false:=by have:=hLS.out;simp;omega
      go_wp2
      go_ret
      exact ⟨by rw [hR.out,hok.out];rfl,(by repeat first | with_reducible (first | exact hWr | apply below_drewN' | apply Below.drew | refine Below.alloc ?_ ?_ _ | refine Below.setCell ?_ ?_ _) | exact hWr | omega | (simp <;> omega) | (have:=(hWr).size;first | omega | (simp <;> omega)))⟩
   ·have hR:Hid (formB fd ft s l=false):=by unfold Hid formB;rw [hf,decide_eq_true h6,decide_eq_false hls];rfl
    have hn6:¬ (6:Int) < (s.size:Int):=by omega
    have hq1:((l.length:Int) != (s.size:Int))=true:=by simp;omega
    have hq2:((s.size:Int) != (l.length:Int))=true:=by simp;omega
    have hq3:¬ s.size=l.length:=by omega
    clear hf hs
    go_enter Tryz.func112,Tryz.ntmps112
    go_wp2_with fail
    generalize w.alloc (.cells #[.int .i64 fd,.int .i64 ft,.string s,.slice A l.length c] 29)=W at *
    refine Calls.mono (HF _).out ?_;rintro e w1 ⟨rfl,hb1⟩
    have hW1:=hW.trans (hb1.mono hW.size)
    have B1:=B0.below hb1 B0.lt
    have y2:w1.cell? ⟨w.heap.size,2,none⟩=some (.string s):=B1.cell 2
    have y3:w1.cell? ⟨w.heap.size,3,none⟩=some (.slice A l.length c):=B1.cell 3
    clear hW B0 hb1 HF
    go_wp2
    go_ret
    exact ⟨by rw [hR.out];rfl,(by repeat first | with_reducible (first | exact hW1 | apply below_drewN' | apply Below.drew | refine Below.alloc ?_ ?_ _ | refine Below.setCell ?_ ?_ _) | exact hW1 | omega | (simp <;> omega) | (have:=(hW1).size;first | omega | (simp <;> omega)))⟩
  ·have hR:Hid (formB fd ft s l=false):=by unfold Hid formB;rw [hf,decide_eq_false h6];rfl
   have hn6:(6:Int) < (s.size:Int):=by omega
   clear hf hs
   go_enter Tryz.func112,Tryz.ntmps112
   go_wp2_with fail
   generalize w.alloc (.cells #[.int .i64 fd,.int .i64 ft,.string s,.slice A l.length c] 29)=W at *
   refine Calls.mono (HF _).out ?_;rintro e w1 ⟨rfl,hb1⟩
   have hW1:=hW.trans (hb1.mono hW.size)
   have B1:=B0.below hb1 B0.lt
   have y2:w1.cell? ⟨w.heap.size,2,none⟩=some (.string s):=B1.cell 2
   have y3:w1.cell? ⟨w.heap.size,3,none⟩=some (.slice A l.length c):=B1.cell 3
   clear hW B0 hb1 HF
   go_wp2
   go_ret
   exact ⟨by rw [hR.out];rfl,(by repeat first | with_reducible (first | exact hW1 | apply below_drewN' | apply Below.drew | refine Below.alloc ?_ ?_ _ | refine Below.setCell ?_ ?_ _) | exact hW1 | omega | (simp <;> omega) | (have:=(hW1).size;first | omega | (simp <;> omega)))⟩
end Go.Proofs.YtednjmldjbndhaaGreatDoor
