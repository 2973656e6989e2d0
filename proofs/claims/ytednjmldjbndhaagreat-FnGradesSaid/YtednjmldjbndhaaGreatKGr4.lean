/- Rules and errors: whether they are valid, the program's and the reference's. No condition beyond the lists' lengths. -/
import Derived.BigQuiet
import Derived.Test.YtednjmldjbndhaaGreatKGr1
import Derived.Test.YtednjmldjbndhaaGreatKGr3
set_option linter.unusedSimpArgs false
set_option linter.unusedVariables false
set_option maxRecDepth 100000
set_option maxHeartbeats 8000000
namespace Go.Proofs.YtednjmldjbndhaaGreat
open Go.RowKit
theorem l01Has_c (A:Option Addr) (c:Nat) (l:List Int) (x:Int) (w:World) (hl:l.length ≤ 140737488351232) (hs:Sl w w.heap.size 1 A (l.map ic)) :
  Calls Tryz.prog 169 #[.slice A l.length c,.int .i64 x] w fun e w'=>e=.returned (.bool (decide (x ∈ l)))∧w=w':=by
 go_enter Tryz.func169,Tryz.ntmps169
 go_wp2_with fail
 go_loop [5] (fun i=>∃ k:Nat,k ≤ l.length∧i=.int .i64 k∧Hid (x ∉ l.take k)) (fun i=>l.length - (intOf i).toNat)
 case atStart=>exact ⟨0,Nat.zero_le _,rfl,(show x ∉ l.take 0 by simp)⟩
 case round =>
  obtain ⟨k,hk,rfl,hno⟩:=hrel
  by_cases hlt:k < l.length
  ·obtain ⟨b,off,rfl,hbB,c0⟩:=hs.int hlt
   have Hnx:Hid (l.take (k+1)=l.take k ++ [l[k]]):=List.take_succ_eq_append_getElem hlt
   have Hme:Hid (l[k] ∈ l):=List.getElem_mem hlt
   generalize l[k]=y at *
   by_cases he:y=x
   ·subst he
    go_wp2
    go_ret
    exact ⟨by rw [decide_eq_true Hme.out];rfl,rfl⟩
   ·have hno2:Hid (x ∉ l.take (k+1)):=by
     unfold Hid
     rw [Hnx.out,List.mem_append,List.mem_singleton]
     rintro (h | h)
     ·exact hno.out h
     ·exact he h.symm
    go_wp2
    go_round
    case rel=>exact ⟨k+1,by omega,by go_num,hno2⟩
    case measure=>simp [intOf];omega
  ·have:k=l.length:=by omega
   subst this
   have h0:Hid (x ∉ l):=by unfold Hid;have:=hno.out;rwa [List.take_length] at this
   go_wp2
   go_ret
   exact ⟨by rw [decide_eq_false h0.out];rfl,rfl⟩
theorem indexInt_c (A:Option Addr) (c:Nat) (l:List Int) (x:Int) (w:World) (hl:l.length ≤ 140737488351232) (hs:Sl w w.heap.size 1 A (l.map ic)) :
  Calls Tryz.prog 203 #[.slice A l.length c,.int .i64 x] w fun e w'=>(∃ r:Int,e=.returned (.int .i64 r)∧Hid (0 ≤ r ↔ x ∈ l))∧w=w':=by
 go_enter Tryz.func203,Tryz.ntmps203
 go_wp2_with fail
 go_loop [8] (fun i=>∃ k:Nat,k ≤ l.length∧i=.int .i64 k∧Hid (x ∉ l.take k)) (fun i=>l.length - (intOf i).toNat)
 case atStart=>exact ⟨0,Nat.zero_le _,rfl,(show x ∉ l.take 0 by simp)⟩
 case round =>
  obtain ⟨k,hk,rfl,hno⟩:=hrel
  by_cases hlt:k < l.length
  ·obtain ⟨b,off,rfl,hbB,c0⟩:=hs.int hlt
   have Hnx:Hid (l.take (k+1)=l.take k ++ [l[k]]):=List.take_succ_eq_append_getElem hlt
   have Hme:Hid (l[k] ∈ l):=List.getElem_mem hlt
   generalize l[k]=y at *
   by_cases he:x=y
   ·subst he
    go_wp2
    go_ret
    exact ⟨⟨k,rfl,(show (0:Int) ≤ k ↔ x ∈ l from ⟨fun _=>Hme.out,fun _=>by omega⟩)⟩,rfl⟩
   ·have hno2:Hid (x ∉ l.take (k+1)):=by
     unfold Hid
     rw [Hnx.out,List.mem_append,List.mem_singleton]
     rintro (h | h)
     ·exact hno.out h
     ·exact he h
    go_wp2
    go_round
    case rel=>exact ⟨k+1,by omega,by go_num,hno2⟩
    case measure=>simp [intOf];omega
  ·have:k=l.length:=by omega
   subst this
   have h0:Hid (x ∉ l):=by unfold Hid;have:=hno.out;rwa [List.take_length] at this
   go_wp2
   go_ret
   exact ⟨⟨-1,rfl,(show (0:Int) ≤ -1 ↔ x ∈ l from ⟨fun h=>by omega,fun h=>absurd h h0.out⟩)⟩,rfl⟩
theorem containsInt_c (A:Option Addr) (c:Nat) (l:List Int) (x:Int) (w:World) (hl:l.length ≤ 140737488351232) (hs:Sl w w.heap.size 1 A (l.map ic)) :
  Calls Tryz.prog 167 #[.slice A l.length c,.int .i64 x] w fun e w'=>e=.returned (.bool (decide (x ∈ l)))∧w=w':=by
 have H:=Lib.hid (indexInt_c A c l x w hl hs)
 go_enter Tryz.func167,Tryz.ntmps167
 go_wp2_with (go_at_call 203;refine H.out.mono ?_;rintro e w1 ⟨⟨r,rfl,hr⟩,rfl⟩)
 go_ret
 exact ⟨by rw [decide_eq_decide.2 hr.out.symm];rfl,rfl⟩
def scaleB (s:Int):Bool:=inB s 0 5 && (s != 5)
def scalesTo (l:List Int) (k:Nat):Bool:=(List.range k).all fun i=>scaleB l[i]! && !decide (l[i]! ∈ l.take i)
def scalesB (l:List Int):Bool:=scalesTo l l.length && inB l.length 1 6
theorem scalesTo_succ (l:List Int) {k:Nat} (hk:k < l.length):scalesTo l (k+1)=(scalesTo l k && (scaleB l[k] && !decide (l[k] ∈ l.take k))):=by
 unfold scalesTo
 rw [List.range_succ,List.all_append]
 simp [List.getElem?_eq_getElem hk]
theorem scalesTo_bad {l:List Int} {k n:Nat} (hk:k < n) (hn:n ≤ l.length) (h:(scaleB (l[k]'(by omega)) && !decide ((l[k]'(by omega)) ∈ l.take k))=false):scalesTo l n=false:=by
 unfold scalesTo
 rw [List.all_eq_false]
 refine ⟨k,List.mem_range.2 hk,?_⟩
 rw [getElem!_pos l k (by omega),h]
 simp
def ruleB (L:Int) (s1 s2:List Int):Bool:=inB L 1 100000 && scalesB s1 && scalesB s2
def errorsB (p q r:Int):Bool:=inB p 0 200 && inB q 0 200 && inB r 0 200
theorem implAreErrors_c (p q r:Int) (w:World):Calls Tryz.prog 51 #[.agg #[.int .i64 p,.int .i64 q,.int .i64 r]] w fun e w'=>e=.returned (.bool (errorsB p q r))∧Below w.heap.size w w':=by
 have H:=fun x W=>Lib.hid (within_c x 0 200 W)
 unfold errorsB
 cases h1:inB p 0 200 <;> cases h2:inB q 0 200 <;> cases h3:inB r 0 200
 all_goals
  go_enter Tryz.func51,Tryz.ntmps51
  go_wp2_with (go_at_call 52;refine (H _ _).out.mono ?_;rintro e w1 ⟨rfl,rfl⟩)
  go_ret
  exact ⟨rfl,(by repeat first | with_reducible (first | exact Below.refl _ _ | apply below_drewN' | apply Below.drew | refine Below.alloc ?_ ?_ _ | refine Below.setCell ?_ ?_ _) | exact Below.refl _ _ | omega | (simp <;> omega) | (have:=(Below.refl _ _).size;first | omega | (simp <;> omega)))⟩
theorem l10Scale_c (x:Int) (w:World):Calls Tryz.prog 168 #[.int .i64 x] w fun e w'=>e=.returned (.bool (scaleB x))∧w=w':=by
 have H:=fun W=>Lib.hid (specIsScale_c x W)
 unfold scaleB
 cases h1:inB x 0 5
 all_goals
  rw [h1] at H
  go_enter Tryz.func168,Tryz.ntmps168
  go_wp2_with (go_at_call 204;refine (H _).out.mono ?_;rintro e w1 ⟨rfl,rfl⟩)
  go_ret
  exact ⟨rfl,rfl⟩
theorem specAreErrors_c (p q r:Int) (w:World):Calls Tryz.prog 55 #[.agg #[.int .i64 p,.int .i64 q,.int .i64 r]] w fun e w'=>e=.returned (.bool (errorsB p q r))∧Below w.heap.size w w':=by
 have H:=fun x W=>Lib.hid (l10Eye_c x W)
 unfold errorsB
 cases h1:inB p 0 200 <;> cases h2:inB q 0 200 <;> cases h3:inB r 0 200
 all_goals
  go_enter Tryz.func55,Tryz.ntmps55
  go_wp2_with (go_at_call 113;refine (H _ _).out.mono ?_;rintro e w1 ⟨rfl,rfl⟩)
  go_ret
  exact ⟨rfl,(by repeat first | with_reducible (first | exact Below.refl _ _ | apply below_drewN' | apply Below.drew | refine Below.alloc ?_ ?_ _ | refine Below.setCell ?_ ?_ _) | exact Below.refl _ _ | omega | (simp <;> omega) | (have:=(Below.refl _ _).size;first | omega | (simp <;> omega)))⟩
theorem l11Scales_c (A:Option Addr) (c:Nat) (l:List Int) (w:World) (hl:l.length ≤ 140737488351232) (hc:l.length ≤ c) (hs:Sl w w.heap.size 1 A (l.map ic)) :
  Calls Tryz.prog 112 #[.slice A l.length c] w fun e w'=>e=.returned (.bool (scalesB l))∧Below w.heap.size w w':=by
 unfold scalesB
 go_enter Tryz.func112,Tryz.ntmps112
 go_wp2_with fail
 go_loopw [3] (fun i wr=>∃ k:Nat,k ≤ l.length∧i=.int .i64 k∧Hid (scalesTo l k=true)∧Below w.heap.size w wr) (fun i _=>l.length - (intOf i).toNat)
 case atStart=>exact ⟨0,Nat.zero_le _,rfl,(show scalesTo l 0=true by rfl),Below.refl _ _⟩
 case round =>
  obtain ⟨k,hk,rfl,hok,hb⟩:=hrel
  by_cases hlt:k < l.length
  ·have Hsucc:=Lib.hid (scalesTo_succ l hlt)
   have hbad:∀ h:(scaleB l[k] && !decide (l[k] ∈ l.take k))=false,Hid (scalesTo l l.length=false):=fun h=>scalesTo_bad hlt (Nat.le_refl _) h
   have hHas:=fun b off W (h:Sl W W.heap.size 1 (some ⟨b,off,none⟩) ((l.take k).map ic))=>l01Has_c (some ⟨b,off,none⟩) c (l.take k) l[k] W (by rw [List.length_take];omega) h
   rw [List.length_take_of_le (by omega)] at hHas
   have HH:=fun b off W h=>Lib.hid (hHas b off W h);clear hHas
   have hs2:=hs
   obtain ⟨b,off,rfl,hbB,c0⟩:=hs.int hlt
   have c0:wr.cell? ⟨b,off+k,none⟩=some (.int .i64 l[k]):=by rw [hb.cell hbB];exact c0
   have HS:=fun W=>Lib.hid (l10Scale_c l[k] W)
   have HT:=Lib.hid (show Sl w w.heap.size 1 (some ⟨b,off,none⟩) ((l.take k).map ic) by rw [List.map_take];exact hs2.take k)
   clear hs hs2
   have hin:Hid (decide (l[k] ∈ l.take k)=decide (l[k] ∈ l.take k)):=rfl
   generalize hy:l[k]=y at *
   generalize hd:decide (y ∈ l.take k)=d at *
   cases hsb:scaleB y with
   | false =>
    have hF:=hbad (by rw [hsb];rfl)
    rw [hsb] at HS
    clear hbad hsb hy hd
    go_wp2_with fail
    go_quiet (first | (go_at_call 168;refine Calls.quiet_of_same ((HS _).out.mono fun _ _ ⟨h1,h2⟩=>⟨h1,h2.symm⟩)))
    go_wp2
    go_ret
    exact ⟨by rw [hF.out];rfl,(by repeat first | with_reducible (first | exact hb | apply below_drewN' | apply Below.drew | refine Below.alloc ?_ ?_ _ | refine Below.setCell ?_ ?_ _) | exact hb | omega | (simp <;> omega) | (have:=(hb).size;first | omega | (simp <;> omega)))⟩
   | true =>
    rw [hsb] at HS
    have hkc:k ≤ c:=by omega
    have HTW:∀ W,Below w.heap.size w W→Sl W W.heap.size 1 (some ⟨b,off,none⟩) ((l.take k).map ic):=fun W hW=>(HT.out.below hW).more hW.size
    have HTW:=Lib.hid HTW
    clear HT
    cases d with
    | true =>
     have hF:=hbad (by rw [hsb];rfl)
     clear hbad hsb hy hd
     go_wp2_with fail
     go_quiet (first | (go_at_call 168;refine Calls.quiet_of_same ((HS _).out.mono fun _ _ ⟨h1,h2⟩=>⟨h1,h2.symm⟩)) | (go_at_call 169;refine Calls.quiet_of_same ((HH b off _ (HTW.out _ ((by repeat first | with_reducible (first | exact hb | apply below_drewN' | apply Below.drew | refine Below.alloc ?_ ?_ _ | refine Below.setCell ?_ ?_ _) | exact hb | omega | (simp <;> omega) | (have:=(hb).size;first | omega | (simp <;> omega)))))).out.mono fun _ _ ⟨h1,h2⟩=>⟨h1,h2.symm⟩)))
     go_wp2
     go_ret
     exact ⟨by rw [hF.out];rfl,(by repeat first | with_reducible (first | exact hb | apply below_drewN' | apply Below.drew | refine Below.alloc ?_ ?_ _ | refine Below.setCell ?_ ?_ _) | exact hb | omega | (simp <;> omega) | (have:=(hb).size;first | omega | (simp <;> omega)))⟩
    | false =>
     have hok2:Hid (scalesTo l (k+1)=true):=by unfold Hid;rw [Hsucc.out,hok.out,hsb];rfl
     clear hbad hsb hy hd
     go_wp2_with fail
     go_quiet (first | (go_at_call 168;refine Calls.quiet_of_same ((HS _).out.mono fun _ _ ⟨h1,h2⟩=>⟨h1,h2.symm⟩)) | (go_at_call 169;refine Calls.quiet_of_same ((HH b off _ (HTW.out _ ((by repeat first | with_reducible (first | exact hb | apply below_drewN' | apply Below.drew | refine Below.alloc ?_ ?_ _ | refine Below.setCell ?_ ?_ _) | exact hb | omega | (simp <;> omega) | (have:=(hb).size;first | omega | (simp <;> omega)))))).out.mono fun _ _ ⟨h1,h2⟩=>⟨h1,h2.symm⟩)))
     go_wp2
     go_roundw
     case rel=>exact ⟨k+1,by omega,by go_num,hok2,(by repeat first | with_reducible (first | exact hb | apply below_drewN' | apply Below.drew | refine Below.alloc ?_ ?_ _ | refine Below.setCell ?_ ?_ _) | exact hb | omega | (simp <;> omega) | (have:=(hb).size;first | omega | (simp <;> omega)))⟩
     case measure=>simp [intOf];omega
  ·have:k=l.length:=by omega
   subst this
   have HI:=fun W=>Lib.hid (l01In_c l.length 1 6 W)
   go_wp2_with (go_at_call 56;refine (HI _).out.mono ?_;rintro e w1 ⟨rfl,rfl⟩)
   go_ret
   exact ⟨by rw [hok.out];rfl,hb⟩
theorem areScales_c (A:Option Addr) (c:Nat) (l:List Int) (w:World) (hl:l.length ≤ 140737488351232) (hc:l.length ≤ c) (hs:Sl w w.heap.size 1 A (l.map ic)) :
  Calls Tryz.prog 109 #[.slice A l.length c] w fun e w'=>e=.returned (.bool (scalesB l))∧Below w.heap.size w w':=by
 unfold scalesB
 go_enter Tryz.func109,Tryz.ntmps109
 go_wp2_with fail
 go_loopw [7] (fun i wr=>∃ k:Nat,k ≤ l.length∧i=.int .i64 k∧Hid (scalesTo l k=true)∧Below w.heap.size w wr) (fun i _=>l.length - (intOf i).toNat)
 case atStart=>exact ⟨0,Nat.zero_le _,rfl,(show scalesTo l 0=true by rfl),Below.refl _ _⟩
 case round =>
  obtain ⟨k,hk,rfl,hok,hb⟩:=hrel
  by_cases hlt:k < l.length
  ·have Hsucc:=Lib.hid (scalesTo_succ l hlt)
   have hbad:∀ h:(scaleB l[k] && !decide (l[k] ∈ l.take k))=false,Hid (scalesTo l l.length=false):=fun h=>scalesTo_bad hlt (Nat.le_refl _) h
   have hHas:=fun b off W (h:Sl W W.heap.size 1 (some ⟨b,off,none⟩) ((l.take k).map ic))=>containsInt_c (some ⟨b,off,none⟩) c (l.take k) l[k] W (by rw [List.length_take];omega) h
   rw [List.length_take_of_le (by omega)] at hHas
   have HH:=fun b off W h=>Lib.hid (hHas b off W h);clear hHas
   have hs2:=hs
   obtain ⟨b,off,rfl,hbB,c0⟩:=hs.int hlt
   have c0:wr.cell? ⟨b,off+k,none⟩=some (.int .i64 l[k]):=by rw [hb.cell hbB];exact c0
   have HS:=fun W=>Lib.hid (implIsScale_c l[k] W)
   have HT:=Lib.hid (show Sl w w.heap.size 1 (some ⟨b,off,none⟩) ((l.take k).map ic) by rw [List.map_take];exact hs2.take k)
   have hkc:k ≤ c:=by omega
   have HTW:=Lib.hid (fun W (hW:Below w.heap.size w W)=>((HT.out.below hW).more hW.size:Sl W W.heap.size 1 (some ⟨b,off,none⟩) ((l.take k).map ic)))
   clear hs hs2 HT
   generalize hy:l[k]=y at *
   generalize hd:decide (y ∈ l.take k)=d at *
   have hsb:scaleB y=(inB y 0 5 && (y != 5)):=rfl
   generalize inB y 0 5=s at *
   cases s with
   | false =>
    have hF:=hbad (by rw [hsb];rfl)
    clear hbad hsb hy hd
    go_wp2_with (first | (go_at_call 166;refine (HS _).out.mono ?_;rintro e w1 ⟨rfl,rfl⟩))
    go_ret
    exact ⟨by rw [hF.out];rfl,hb⟩
   | true =>
    by_cases h5:y=5
    ·have hF:=hbad (by rw [hsb,h5];rfl)
     clear hbad hsb hy hd
     subst h5
     go_wp2_with (first | (go_at_call 166;refine (HS _).out.mono ?_;rintro e w1 ⟨rfl,rfl⟩))
     go_ret
     exact ⟨by rw [hF.out];rfl,hb⟩
    ·have hne:(y == 5)=false:=by simp [h5]
     have hsb2:scaleB y=true:=by rw [hsb];simp [h5]
     cases d with
     | true =>
      have hF:=hbad (by rw [hsb2];rfl)
      clear hbad hsb hsb2 hy hd
      go_wp2_with (first | (go_at_call 166;refine (HS _).out.mono ?_;rintro e w1 ⟨rfl,rfl⟩) | (go_at_call 167;refine (HH b off _ (HTW.out _ ((by repeat first | with_reducible (first | exact hb | apply below_drewN' | apply Below.drew | refine Below.alloc ?_ ?_ _ | refine Below.setCell ?_ ?_ _) | exact hb | omega | (simp <;> omega) | (have:=(hb).size;first | omega | (simp <;> omega)))))).out.mono ?_;rintro e w1 ⟨rfl,rfl⟩))
      go_ret
      exact ⟨by rw [hF.out];rfl,hb⟩
     | false =>
      have hok2:Hid (scalesTo l (k+1)=true):=by unfold Hid;rw [Hsucc.out,hok.out,hsb2];rfl
      clear hbad hsb hsb2 hy hd
      go_wp2_with (first | (go_at_call 166;refine (HS _).out.mono ?_;rintro e w1 ⟨rfl,rfl⟩) | (go_at_call 167;refine (HH b off _ (HTW.out _ ((by repeat first | with_reducible (first | exact hb | apply below_drewN' | apply Below.drew | refine Below.alloc ?_ ?_ _ | refine Below.setCell ?_ ?_ _) | exact hb | omega | (simp <;> omega) | (have:=(hb).size;first | omega | (simp <;> omega)))))).out.mono ?_;rintro e w1 ⟨rfl,rfl⟩))
      go_roundw
      case rel=>exact ⟨k+1,by omega,by go_num,hok2,hb⟩
      case measure=>simp [intOf];omega
  ·have:k=l.length:=by omega
   subst this
   have hin:Hid (inB l.length 1 6=(decide (1 ≤ (l.length:Int)) && decide ((l.length:Int) ≤ 6))):=rfl
   by_cases h1:(1:Int) ≤ (l.length:Int)
   ·by_cases h6:(l.length:Int) ≤ 6
    ·go_wp2
     go_ret
     exact ⟨by rw [hok.out,hin.out,decide_eq_true h1,decide_eq_true h6];rfl,hb⟩
    ·go_wp2
     go_ret
     exact ⟨by rw [hok.out,hin.out,decide_eq_true h1,(show decide ((l.length:Int) ≤ 6)=false from decide_eq_false (by omega))];rfl,hb⟩
   ·go_wp2
    go_ret
    exact ⟨by rw [hok.out,hin.out,(show decide ((1:Int) ≤ (l.length:Int))=false from decide_eq_false (by omega))];rfl,hb⟩
theorem implIsRule_c (L:Int) (A1:Option Addr) (c1:Nat) (l1:List Int) (A2:Option Addr) (c2:Nat) (l2:List Int) (w:World) (h1:l1.length ≤ 1048576) (h2:l2.length ≤ 1048576) (k1:l1.length ≤ c1) (k2:l2.length ≤ c2) (hs1:Sl w w.heap.size 1 A1 (l1.map ic)) (hs2:Sl w w.heap.size 1 A2 (l2.map ic)) :
  Calls Tryz.prog 50 #[.agg #[.int .i64 L,.slice A1 l1.length c1,.slice A2 l2.length c2]] w fun e w'=>e=.returned (.bool (ruleB L l1 l2))∧Below w.heap.size w w':=by
 have HL:=fun W=>Lib.hid (isLength_c L W)
 have HA:=fun W h=>Lib.hid (areScales_c A1 c1 l1 W (by omega) k1 h)
 have HC:=fun W h=>Lib.hid (areScales_c A2 c2 l2 W (by omega) k2 h)
 unfold ruleB
 generalize inB L 1 100000=a at *
 generalize scalesB l1=b at *
 generalize scalesB l2=d at *
 cases a with
 | false =>
  go_enter Tryz.func50,Tryz.ntmps50
  go_wp2_with (first | (go_at_call 108;refine (HL _).out.mono ?_;rintro e w1 ⟨rfl,rfl⟩))
  go_ret
  exact ⟨rfl,(by repeat first | with_reducible (first | exact Below.refl _ _ | apply below_drewN' | apply Below.drew | refine Below.alloc ?_ ?_ _ | refine Below.setCell ?_ ?_ _) | exact Below.refl _ _ | omega | (simp <;> omega) | (have:=(Below.refl _ _).size;first | omega | (simp <;> omega)))⟩
 | true =>
  cases b with
  | false =>
   go_enter Tryz.func50,Tryz.ntmps50
   go_wp2_with (first | (go_at_call 108;refine (HL _).out.mono ?_;rintro e w1 ⟨rfl,rfl⟩))
   refine (HA _ ((hs1.below ((by repeat first | with_reducible (first | exact Below.refl _ _ | apply below_drewN' | apply Below.drew | refine Below.alloc ?_ ?_ _ | refine Below.setCell ?_ ?_ _) | exact Below.refl _ _ | omega | (simp <;> omega) | (have:=(Below.refl _ _).size;first | omega | (simp <;> omega))))).more (by simp))).out.mono ?_;rintro e w1 ⟨rfl,hb1⟩
   go_wp2
   go_ret
   exact ⟨rfl,((Below.refl _ _).alloc (Nat.le_refl _) _).trans (hb1.mono (by simp))⟩
  | true =>
   go_enter Tryz.func50,Tryz.ntmps50
   go_wp2_with (first | (go_at_call 108;refine (HL _).out.mono ?_;rintro e w1 ⟨rfl,rfl⟩))
   refine (HA _ ((hs1.below ((by repeat first | with_reducible (first | exact Below.refl _ _ | apply below_drewN' | apply Below.drew | refine Below.alloc ?_ ?_ _ | refine Below.setCell ?_ ?_ _) | exact Below.refl _ _ | omega | (simp <;> omega) | (have:=(Below.refl _ _).size;first | omega | (simp <;> omega))))).more (by simp))).out.mono ?_;rintro e w1 ⟨rfl,hb1⟩
   have B0:=(Blk.new w 26 #[.int .i64 L,.slice A1 l1.length c1,.slice A2 l2.length c2]).below hb1 (by simp)
   have x2:w1.cell? ⟨w.heap.size,2,none⟩=some (.slice A2 l2.length c2):=B0.cell 2
   have hB1:Below w.heap.size w w1:=((Below.refl _ _).alloc (Nat.le_refl _) _).trans (hb1.mono (by simp))
   go_wp2_with fail
   refine (HC _ ((hs2.below hB1).more hB1.size)).out.mono ?_;rintro e w2 ⟨rfl,hb2⟩
   go_wp2
   go_ret
   exact ⟨by cases d <;> rfl,hB1.trans (hb2.mono hB1.size)⟩
theorem specIsRule_c (L:Int) (A1:Option Addr) (c1:Nat) (l1:List Int) (A2:Option Addr) (c2:Nat) (l2:List Int) (w:World) (h1:l1.length ≤ 1048576) (h2:l2.length ≤ 1048576) (k1:l1.length ≤ c1) (k2:l2.length ≤ c2) (hs1:Sl w w.heap.size 1 A1 (l1.map ic)) (hs2:Sl w w.heap.size 1 A2 (l2.map ic)) :
  Calls Tryz.prog 54 #[.agg #[.int .i64 L,.slice A1 l1.length c1,.slice A2 l2.length c2]] w fun e w'=>e=.returned (.bool (ruleB L l1 l2))∧Below w.heap.size w w':=by
 have HL:=fun W=>Lib.hid (l05Length_c L W)
 have HA:=fun W h=>Lib.hid (l11Scales_c A1 c1 l1 W (by omega) k1 h)
 have HC:=fun W h=>Lib.hid (l11Scales_c A2 c2 l2 W (by omega) k2 h)
 unfold ruleB
 generalize inB L 1 100000=a at *
 generalize scalesB l1=b at *
 generalize scalesB l2=d at *
 cases a with
 | false =>
  go_enter Tryz.func54,Tryz.ntmps54
  go_wp2_with (first | (go_at_call 111;refine (HL _).out.mono ?_;rintro e w1 ⟨rfl,rfl⟩))
  go_ret
  exact ⟨rfl,(by repeat first | with_reducible (first | exact Below.refl _ _ | apply below_drewN' | apply Below.drew | refine Below.alloc ?_ ?_ _ | refine Below.setCell ?_ ?_ _) | exact Below.refl _ _ | omega | (simp <;> omega) | (have:=(Below.refl _ _).size;first | omega | (simp <;> omega)))⟩
 | true =>
  cases b with
  | false =>
   go_enter Tryz.func54,Tryz.ntmps54
   go_wp2_with (first | (go_at_call 111;refine (HL _).out.mono ?_;rintro e w1 ⟨rfl,rfl⟩))
   refine (HA _ ((hs1.below ((by repeat first | with_reducible (first | exact Below.refl _ _ | apply below_drewN' | apply Below.drew | refine Below.alloc ?_ ?_ _ | refine Below.setCell ?_ ?_ _) | exact Below.refl _ _ | omega | (simp <;> omega) | (have:=(Below.refl _ _).size;first | omega | (simp <;> omega))))).more (by simp))).out.mono ?_;rintro e w1 ⟨rfl,hb1⟩
   go_wp2
   go_ret
   exact ⟨rfl,((Below.refl _ _).alloc (Nat.le_refl _) _).trans (hb1.mono (by simp))⟩
  | true =>
   go_enter Tryz.func54,Tryz.ntmps54
   go_wp2_with (first | (go_at_call 111;refine (HL _).out.mono ?_;rintro e w1 ⟨rfl,rfl⟩))
   refine (HA _ ((hs1.below ((by repeat first | with_reducible (first | exact Below.refl _ _ | apply below_drewN' | apply Below.drew | refine Below.alloc ?_ ?_ _ | refine Below.setCell ?_ ?_ _) | exact Below.refl _ _ | omega | (simp <;> omega) | (have:=(Below.refl _ _).size;first | omega | (simp <;> omega))))).more (by simp))).out.mono ?_;rintro e w1 ⟨rfl,hb1⟩
   have B0:=(Blk.new w 26 #[.int .i64 L,.slice A1 l1.length c1,.slice A2 l2.length c2]).below hb1 (by simp)
   have x2:w1.cell? ⟨w.heap.size,2,none⟩=some (.slice A2 l2.length c2):=B0.cell 2
   have hB1:Below w.heap.size w w1:=((Below.refl _ _).alloc (Nat.le_refl _) _).trans (hb1.mono (by simp))
   go_wp2_with fail
   refine (HC _ ((hs2.below hB1).more hB1.size)).out.mono ?_;rintro e w2 ⟨rfl,hb2⟩
   go_wp2
   go_ret
   exact ⟨by cases d <;> rfl,hB1.trans (hb2.mono hB1.size)⟩
end Go.Proofs.YtednjmldjbndhaaGreat
