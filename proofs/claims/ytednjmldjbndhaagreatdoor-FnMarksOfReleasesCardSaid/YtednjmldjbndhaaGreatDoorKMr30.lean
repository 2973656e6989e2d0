/- Titles, the reference's: a title is put where it belongs if it is not there. Plain, and the walk. Conditions: the lengths. -/
import Derived.Deep.RegionHeld3
import Derived.Sort.Walk0
import Derived.Test.YtednjmldjbndhaaGreatDoorKMr23
import Derived.Test.YtednjmldjbndhaaGreatDoorKMr3
set_option linter.unusedSimpArgs false
set_option linter.unusedVariables false
set_option maxRecDepth 100000
set_option maxHeartbeats 8000000
namespace Go.Proofs.YtednjmldjbndhaaGreatDoor
open Go.RowKit Go.Lib Go.Sort
structure Scan (R:List (List UInt8)) (t:List UInt8) (j q:Nat) (b:Bool):Prop where
 jq:j ≤ q∧q ≤ R.length
 th:b=true ↔ t ∈ R.drop j
 hi:∀ (i:Nat) (h:i < R.length),q ≤ i→ltStr t R[i]=true
 lo:∀ (i:Nat) (h:i < R.length),j ≤ i→i < q→ltStr t R[i]=false
theorem Scan.init (R:List (List UInt8)) (t:List UInt8):Scan R t R.length R.length false :=
 ⟨⟨Nat.le_refl _,Nat.le_refl _⟩,by simp,fun i h hq=>by omega,fun i h h1 h2=>by omega⟩
theorem Scan.next {R:List (List UInt8)} {t:List UInt8} {j q:Nat} {b:Bool} (hs:LStrict ltStr R) (h:Scan R t (j+1) q b) (hj:j < R.length) :
  Scan R t j (if ltStr t R[j]=true then j else q) (b || (R[j] == t)):=by
 have hd:R.drop j=R[j] :: R.drop (j+1):=List.drop_eq_getElem_cons hj
 have hth:(b || (R[j] == t))=true ↔ t ∈ R.drop j:=by
  rw [hd,List.mem_cons,← h.th,Bool.or_eq_true,beq_iff_eq]
  constructor
  ·rintro (h1 | h1)
   ·exact .inr h1
   ·exact .inl h1.symm
  ·rintro (h1 | h1)
   ·exact .inr h1.symm
   ·exact .inl h1
 by_cases hl:ltStr t R[j]=true
 ·rw [if_pos hl]
  refine ⟨⟨Nat.le_refl _,by omega⟩,hth,fun i hi hq=>?_,fun i hi h1 h2=>by omega⟩
  rcases Nat.lt_or_ge j i with hji | hji
  ·exact swo_ltStr.trans _ _ _ hl (List.pairwise_iff_getElem.1 hs j i hj hi hji)
  ·obtain rfl:i=j:=by omega
   exact hl
 ·rw [if_neg hl]
  refine ⟨⟨by have:=h.jq.1;omega,h.jq.2⟩,hth,h.hi,fun i hi h1 h2=>?_⟩
  rcases Nat.lt_or_ge j i with hji | hji
  ·exact h.lo i hi hji h2
  ·obtain rfl:i=j:=by omega
   simpa using hl
theorem Scan.there {R:List (List UInt8)} {t:List UInt8} {q:Nat} (h:Scan R t 0 q true):t ∈ R:=by simpa using h.th.1 rfl
theorem Scan.put {R:List (List UInt8)} {t:List UInt8} {q:Nat} (hs:LStrict ltStr R) (h:Scan R t 0 q false):LStrict ltStr (R.take q ++ [t] ++ R.drop q)∧∀ x,x ∈ R.take q ++ [t] ++ R.drop q ↔ x ∈ R ∨ x=t:=by
 have hn:t ∉ R:=fun hm=>by
  have:=h.th.2 (by simpa using hm)
  cases this
 have hlt:∀ x ∈ R.take q,ltStr x t=true:=fun x hx=>by
  obtain ⟨i,hi,rfl⟩:=List.getElem_of_mem hx
  have hiq:i < q∧i < R.length:=by rw [List.length_take] at hi;omega
  have h1:=h.lo i hiq.2 (Nat.zero_le _) hiq.1
  rw [List.getElem_take]
  cases h2:ltStr R[i] t with
  | true=>rfl
  | false=>exact absurd (totS _ _ h1 h2 ▸ List.getElem_mem hiq.2) hn
 have hgt:∀ x ∈ R.drop q,ltStr t x=true:=fun x hx=>by
  obtain ⟨i,hi,rfl⟩:=List.getElem_of_mem hx
  rw [List.getElem_drop]
  exact h.hi (q+i) (by simp at hi;omega) (by omega)
 have hp:R.Pairwise fun x y=>ltStr x y=true:=hs
 refine ⟨?_,fun x=>?_⟩
 ·unfold LStrict
  rw [List.append_assoc,List.pairwise_append]
  have hsp:(R.take q ++ R.drop q).Pairwise fun x y=>ltStr x y=true:=by rw [List.take_append_drop];exact hp
  rw [List.pairwise_append] at hsp
  refine ⟨hsp.1,?_,fun a ha b hb=>?_⟩
  ·rw [List.singleton_append,List.pairwise_cons]
   exact ⟨hgt,hsp.2.1⟩
  ·rw [List.singleton_append,List.mem_cons] at hb
   rcases hb with rfl | hb
   ·exact hlt a ha
   ·exact hsp.2.2 a ha b hb
 ·conv=>rhs;rw [← List.take_append_drop q R]
  simp only [List.mem_append,List.mem_singleton]
  constructor
  ·rintro ((h1 | h1) | h1)
   ·exact .inl (.inl h1)
   ·exact .inr h1
   ·exact .inl (.inr h1)
  ·rintro ((h1 | h1) | h1)
   ·exact .inl (.inl h1)
   ·exact .inr h1
   ·exact .inl (.inr h1)
theorem strD {l:List (List UInt8)} {m:Nat}:∀ y ∈ (l.map sc).drop m,∀ u ∈ y,u.oneCell'=true:=fun y hy=>sc_one y (List.mem_of_mem_drop hy)
theorem strT {l:List (List UInt8)} {m:Nat}:∀ y ∈ (l.map sc).take m,∀ u ∈ y,u.oneCell'=true:=fun y hy=>sc_one y (List.mem_of_mem_take hy)
theorem block_lt {w:World} {b o:Nat} {v:Value} (h:w.cell? ⟨b,o,none⟩=some v):b < w.heap.size:=by
 rcases Nat.lt_or_ge b w.heap.size with hlt | hge
 ·exact hlt
 ·unfold World.cell? at h
  rw [Array.getElem?_eq_none hge] at h
  cases h
theorem below_keepc {B:Nat} {W w2:World} (hb:Below B W w2) {b o:Nat} {v:Value} (hc:W.cell? ⟨b,o,none⟩=some v) (hB:W.heap.size ≤ B:=by exact Nat.le_refl _):w2.cell? ⟨b,o,none⟩=some v:=by
 rw [hb.cell (show b < B from Nat.lt_of_lt_of_le (block_lt hc) hB)];exact hc
theorem belX_alloc {B:Nat} {w0 w:World} {X:Prop} (h:RowKit.Below B w0 w∧X) (o:Obj) (hB:B ≤ w0.heap.size):RowKit.Below B w0 (w.alloc o):=h.1.alloc (Nat.le_trans hB h.1.size) _
theorem belX {B:Nat} {w0 w:World} {X:Prop} (h:RowKit.Below B w0 w∧X):RowKit.Below B w0 w:=h.1
theorem run_slice_fromK {P:Program} (W:World) (t e:TypeId) (k:Nat) (ht:P.underlying t=some (.slice e)) (hz:∀ w,(Go.sizeOf e).run P w=.ok k w) (g n cap lo:Nat) (h1:lo ≤ n) (_:n ≤ cap) :
  (Instr.slice t (.slice (some ⟨g,0,none⟩) n cap) (some (.int .i64 (lo:Int))) none none).run P W=.ok (.slice (if cap=lo then some ⟨g,0,none⟩ else (some (⟨g,0,none⟩:Addr)).map (·.add (lo * k))) (n - lo) (cap - lo)) W:=by
 have ht':P.underlying t=some (.slice (P.elem t)):=by simp [Program.elem,ht]
 have he:P.elem t=e:=by simp [Program.elem,ht]
 rw [run_slice_l W t _ _ _ ht' .i64 _ (by omega) (by omega),he,hz]
 by_cases h0:cap=lo
 ·simp [Result.andThen,sliced,h0]
 ·simp [Result.andThen,sliced,h0]
theorem Own.of_empty {w:World} {base n:Nat} {e:TypeId} {k:Nat} (h:Blk w n e #[]) (hb:base ≤ n):Own w base e k (.slice (some ⟨n,0,none⟩) 0 0) [] :=
 ⟨⟨by simp,.inr ⟨n,0,#[],rfl,hb,h,Nat.le_refl _,Nat.zero_le _,by simp,by simp⟩⟩,by simp⟩
theorem Own.some_ {w:World} {base:Nat} {e:TypeId} {k:Nat} {v:Value} {xs:List (List Value)} (h:Own w base e k v xs) (hx:0 < xs.length):∃ g c,v=.slice (some ⟨g,0,none⟩) xs.length c:=by
 rcases h.1.2 with ⟨_,h0⟩ | ⟨g,cap,cur,rfl,_⟩
 ·omega
 ·exact ⟨g,cap,rfl⟩
theorem specTitles_c (A:Option Addr) (c:Nat) (es:List EnR) (w:World) (E:EnsIn w A es) (_hc:es.length ≤ c) :
  Calls Tryz.prog 33 #[.slice A es.length c] w (PostRows 9 1 (titR (ens es)).length ((titR (ens es)).map sc) (titC (ens es)) w):=by
 have hl:=E.n
 have hs:=E.s
 have HC:=Lib.hid (specIsCat_c A c es w E)
 have hR:Hid ((catB (ens es)=false→titR (ens es)=[])∧titC (ens es)=(if catB (ens es)=true then 0 else 1)):=Lib.hid ⟨fun h=>by unfold titR;rw [h];rfl,rfl⟩
 have hof:Hid (catB (ens es)=true→∀ R:List (List UInt8),LStrict ltStr R→(∀ x,x ∈ R ↔ x ∈ titles (ens es))→R=titR (ens es)):=Lib.hid (fun hv R h1 h2=>titR_of hv h1 h2)
 have hds:=Lib.hid (fun (k:Nat) (hk:k < es.length)=>(by
  have h1:k < (titles (ens es)).length:=by rw [titles_len,ens_len];exact hk
  rw [List.take_succ_eq_append_getElem h1]
  congr 1
  simp [titles,ens]:(titles (ens es)).take (k+1)=(titles (ens es)).take k ++ [es[k].e.ti.data.toList]))
 have hall:Hid ((titles (ens es)).take es.length=titles (ens es)):=Lib.hid (by rw [List.take_of_length_le];rw [titles_len,ens_len];exact Nat.le_refl _)
 obtain ⟨ii,hi,hz0,hz1,hz2⟩:=info_parts info_Str
 clear E
 generalize titR (ens es)=RR at *
 generalize titC (ens es)=cd at *
 generalize titles (ens es)=T at *
 generalize catB (ens es)=cb at *
 cases cb with
 | false =>
  obtain ⟨hR1,rfl⟩:=hR.out
  obtain rfl:=hR1 rfl
  go_enter Tryz.func33,Tryz.ntmps33
  go_wp2_with fail
  refine Calls.mono HC.out ?_;rintro x w1 ⟨rfl,hb1⟩
  go_wp2
  go_ret2
  exact ⟨none,0,rfl,Own.nil_,hb1⟩
 | true =>
 obtain ⟨_,hR2⟩:=hR.out
 rw [if_pos rfl] at hR2
 subst hR2
 replace hof:=Lib.hid (hof.out rfl)
 clear hR
 go_enter Tryz.func33,Tryz.ntmps33
 go_wp2_with fail
 refine Calls.mono HC.out ?_;rintro x w1 ⟨rfl,hb1⟩
 have L0:AppL w 9 (([]:List (List UInt8)).map sc) (.slice (some ⟨w1.heap.size,0,none⟩) 0 0) (w1.alloc (.cells #[] 9)):=⟨(by repeat first | with_reducible (first | exact hb1 | apply below_drewN' | apply Below.drew | refine Below.alloc ?_ ?_ _ | refine Below.setCell ?_ ?_ _) | exact hb1 | omega | (simp <;> omega) | (have:=(hb1).size;first | omega | (simp <;> omega))),Own.empty hb1.size⟩
 go_wp2_with fail
 go_loopw [4,5] (fun o i wr=>∃ (k:Nat) (R:List (List UInt8)) (g4 c4:Nat),k ≤ es.length∧i=.int .i64 k∧o=.slice (some ⟨g4,0,none⟩) R.length c4∧AppL w 9 (R.map sc) o wr∧R.length ≤ k∧Hid (LStrict ltStr R∧∀ x,x ∈ R ↔ x ∈ T.take k)) (fun _ i _=>es.length - (intOf i).toNat)
 case atStart=>exact ⟨0,[],_,0,Nat.zero_le _,rfl,rfl,L0,Nat.le_refl _,Lib.hid ⟨List.Pairwise.nil,by simp⟩⟩
 case round =>
  clear L0
  obtain ⟨k,R,g4,c4,hk,rfl,rfl,hL,hRl,hI⟩:=hrel
  have hc4:=hL.o.le_cap
  by_cases hlt:k < es.length
  ·have hnx:=Lib.hid (hds.out k hlt)
   obtain ⟨b,off,rfl,hbB,hc'⟩:=hs.at_ (i:=k) (by simpa using hlt)
   simp only [List.getElem_map] at hc'
   have HX:Hid (∀ W,Below w.heap.size w W→W.cell? ⟨b,off+k * 20,none⟩=some (.string es[k].e.ti)):=Lib.hid (fun W hW=>(hW.cell (p:=⟨b,off+k * 20,none⟩) hbB).trans (by simpa using hc' 0 _ rfl))
   clear hc'
   have k1:(k:Int) < (es.length:Int):=by omega
   have k0:(0:Int) ≤ (k:Int):=by omega
   generalize es[k].e.ti=ti at *
   have hwr:IntKind.i64.wrap ((R.length:Int) - 1)=(R.length:Int) - 1:=IntWalk.i64_in _ (by omega)
   have hSc:Hid (Scan R ti.data.toList R.length R.length false):=Lib.hid (Scan.init _ _)
   go_wp2_with fail
   go_loopw [6,7,8] (fun a th i wr=>∃ (j q:Nat) (tb:Bool),a=.int .i64 q∧th=.bool tb∧i=.int .i64 ((j:Int) - 1)∧(j ≤ R.length∧q ≤ R.length)∧Hid (Scan R ti.data.toList j q tb)∧AppL w 9 (R.map sc) (.slice (some ⟨g4,0,none⟩) R.length c4) wr) (fun _ _ i _=>(intOf i+1).toNat)
   case atStart=>exact ⟨R.length,R.length,false,rfl,rfl,rfl,⟨Nat.le_refl _,Nat.le_refl _⟩,hSc,hL⟩
   case round =>
    clear hL hSc
    obtain ⟨j,q,tb,rfl,rfl,rfl,⟨hj,hq⟩,hSc,hL⟩:=hrel
    by_cases hj0:0 < j
    ·obtain ⟨j,rfl⟩:∃ j',j=j'+1:=⟨j - 1,by omega⟩
     have hje:(((j+1:Nat):Int) - 1)=(j:Int):=by omega
     rw [hje]
     have hjl:j < R.length:=by omega
     obtain ⟨b2,off2,hA2,hgl,y0⟩:=hL.o.sl.str hjl
     obtain ⟨rfl,rfl⟩:g4=b2∧0=off2:=by simpa using hA2
     rw [Nat.zero_add] at y0
     clear hA2
     have hSn:=Lib.hid (hSc.out.next hI.out.1 hjl)
     have x0:=HX.out _ hL.hb
     have hbl:b < wr.heap.size:=Nat.lt_of_lt_of_le hbB hL.hb.size
     have hXe:(⟨R[j].toArray⟩:ByteArray).toList=R[j]:=ByteArray.toList_mk _
     have hTe:ti.toList=ti.data.toList:=ByteArray.toList_eq ti
     have hbq:((⟨R[j].toArray⟩:ByteArray).toList == ti.toList)=(R[j] == ti.data.toList):=by rw [hXe,hTe]
     have hbl2:Op.bytesLess ti.toList (⟨R[j].toArray⟩:ByteArray).toList=ltStr ti.data.toList R[j]:=by rw [hXe,hTe,bytesLess_eq];rfl
     generalize (R[j] == ti.data.toList)=bq at *
     generalize ltStr ti.data.toList R[j]=bs at *
     generalize (⟨R[j].toArray⟩:ByteArray)=X at *
     have j1:(j:Int) < (R.length:Int):=by omega
     have j0:(0:Int) ≤ (j:Int):=by omega
     clear hXe hTe
     rcases tb with _ | _
     ·rw [Bool.false_or] at hSn
      go_wp2_with fail
      refine wp_region_sink 13 (fun a0 fL bA v=>∃ v28 v29 v30 v31 v32 v33 v34 v35 v36 v37 v38 v39 v40:Value,bA=((((((((((((a0.put (some 28) v28).put (some 29) v29).put (some 30) v30).put (some 31) v31).put (some 32) v32).put (some 33) v33).put (some 34) v34).put (some 35) v35).put (some 36) v36).put (some 37) v37).put (some 38) v38).put (some 39) v39).put (some 40) v40∧(Below wr.heap.size wr v)∧(fL 0=true→v28=.bool false)∧(fL 1=true→v29=.bool false)∧(fL 2=true→v30=.slice (some ⟨g4,0,none⟩) R.length c4)∧(fL 3=true→v31=.int .i64 j)∧(fL 4=true→v32=.pointer (some ⟨g4,j,none⟩))∧(fL 5=true→v33=.string X)∧(fL 6=true→v34=.slice (some ⟨b,off,none⟩) es.length c)∧(fL 7=true→v35=.int .i64 k)∧(fL 8=true→v36=.pointer (some ⟨b,off+k * 20,none⟩))∧(fL 9=true→v37=.pointer (some ⟨b,off+k * 20,none⟩))∧(fL 10=true→v38=.string ti)∧(fL 11=true→v39=.bool bq)∧(fL 12=true→v40=.bool bq)) (by kernel_rfl) (by decide +kernel) ?_ ?_ ?_
      ·exact ⟨_,_,_,_,_,_,_,_,_,_,_,_,_,put_more (put_more (put_more (put_more (put_more (put_more (put_more (put_more (put_more (put_more (put_more (put_more (put_more (rfl) 28) 29) 30) 31) 32) 33) 34) 35) 36) 37) 38) 39) 40,(Below.refl _ _).drew,nofun,nofun,nofun,nofun,nofun,nofun,nofun,nofun,nofun,nofun,nofun,nofun,nofun⟩
      ·rintro fL bA v ⟨v28,v29,v30,v31,v32,v33,v34,v35,v36,v37,v38,v39,v40,rfl,hS,q0,q1,q2,q3,q4,q5,q6,q7,q8,q9,q10,q11,q12⟩ i hi hf o ho hall
       simp only [Act.put,List.setIfInBounds_toArray,List.set_cons_zero,List.set_cons_succ]
       have hn:i=0 ∨ i=1 ∨ i=2 ∨ i=3 ∨ i=4 ∨ i=5 ∨ i=6 ∨ i=7 ∨ i=8 ∨ i=9 ∨ i=10 ∨ i=11 ∨ i=12:=by omega
       clear hi
       rcases hn with rfl | rfl | rfl | rfl | rfl | rfl | rfl | rfl | rfl | rfl | rfl | rfl | rfl
       ·obtain rfl:=Option.some.inj ho
        clear hall ho
        refine wpOp_step rfl (fun K hK=>?_)
        go_simp
        exact hK _ _ ⟨_,_,_,_,_,_,_,_,_,_,_,_,_,rfl,hS,fun _=>rfl,q1,q2,q3,q4,q5,q6,q7,q8,q9,q10,q11,q12⟩
       ·obtain rfl:=Option.some.inj ho
        obtain rfl:=q0 (hall ⟨0,.data⟩ (by simp) rfl)
        clear hall ho
        refine wpOp_step rfl (fun K hK=>?_)
        go_simp
        exact hK _ _ ⟨_,_,_,_,_,_,_,_,_,_,_,_,_,rfl,hS,fun _=>rfl,fun _=>rfl,q2,q3,q4,q5,q6,q7,q8,q9,q10,q11,q12⟩
       ·obtain rfl:=Option.some.inj ho
        obtain rfl:=q1 (hall ⟨1,.guard⟩ (by simp) rfl)
        clear hall ho
        refine wpOp_step rfl (fun K hK=>?_)
        go_simp
        exact hK _ _ ⟨_,_,_,_,_,_,_,_,_,_,_,_,_,rfl,hS,q0,fun _=>rfl,fun _=>rfl,q3,q4,q5,q6,q7,q8,q9,q10,q11,q12⟩
       ·obtain rfl:=Option.some.inj ho
        obtain rfl:=q1 (hall ⟨1,.guard⟩ (by simp) rfl)
        clear hall ho
        refine wpOp_step rfl (fun K hK=>?_)
        go_simp
        exact hK _ _ ⟨_,_,_,_,_,_,_,_,_,_,_,_,_,rfl,hS,q0,fun _=>rfl,q2,fun _=>rfl,q4,q5,q6,q7,q8,q9,q10,q11,q12⟩
       ·obtain rfl:=Option.some.inj ho
        obtain rfl:=q2 (hall ⟨2,.data⟩ (by simp) rfl)
        obtain rfl:=q3 (hall ⟨3,.data⟩ (by simp) rfl)
        obtain rfl:=q1 (hall ⟨1,.guard⟩ (by simp) rfl)
        clear hall ho
        refine wpOp_step rfl (fun K hK=>?_)
        go_simp
        exact hK _ _ ⟨_,_,_,_,_,_,_,_,_,_,_,_,_,rfl,hS,q0,fun _=>rfl,fun _=>rfl,fun _=>rfl,fun _=>rfl,q5,q6,q7,q8,q9,q10,q11,q12⟩
       ·obtain rfl:=Option.some.inj ho
        obtain rfl:=q4 (hall ⟨4,.data⟩ (by simp) rfl)
        obtain rfl:=q1 (hall ⟨1,.guard⟩ (by simp) rfl)
        have z:=(hS.cell (p:=⟨g4,j,none⟩) hgl).trans y0
        clear hall ho
        refine wpOp_step rfl (fun K hK=>?_)
        go_simp
        exact hK _ _ ⟨_,_,_,_,_,_,_,_,_,_,_,_,_,rfl,hS,q0,fun _=>rfl,q2,q3,fun _=>rfl,fun _=>rfl,q6,q7,q8,q9,q10,q11,q12⟩
       ·obtain rfl:=Option.some.inj ho
        obtain rfl:=q1 (hall ⟨1,.guard⟩ (by simp) rfl)
        clear hall ho
        refine wpOp_step rfl (fun K hK=>?_)
        go_simp
        exact hK _ _ ⟨_,_,_,_,_,_,_,_,_,_,_,_,_,rfl,hS,q0,fun _=>rfl,q2,q3,q4,q5,fun _=>rfl,q7,q8,q9,q10,q11,q12⟩
       ·obtain rfl:=Option.some.inj ho
        obtain rfl:=q1 (hall ⟨1,.guard⟩ (by simp) rfl)
        clear hall ho
        refine wpOp_step rfl (fun K hK=>?_)
        go_simp
        exact hK _ _ ⟨_,_,_,_,_,_,_,_,_,_,_,_,_,rfl,hS,q0,fun _=>rfl,q2,q3,q4,q5,q6,fun _=>rfl,q8,q9,q10,q11,q12⟩
       ·obtain rfl:=Option.some.inj ho
        obtain rfl:=q6 (hall ⟨6,.data⟩ (by simp) rfl)
        obtain rfl:=q7 (hall ⟨7,.data⟩ (by simp) rfl)
        obtain rfl:=q1 (hall ⟨1,.guard⟩ (by simp) rfl)
        clear hall ho
        refine wpOp_step rfl (fun K hK=>?_)
        go_simp
        exact hK _ _ ⟨_,_,_,_,_,_,_,_,_,_,_,_,_,rfl,hS,q0,fun _=>rfl,q2,q3,q4,q5,fun _=>rfl,fun _=>rfl,fun _=>rfl,q9,q10,q11,q12⟩
       ·obtain rfl:=Option.some.inj ho
        obtain rfl:=q8 (hall ⟨8,.data⟩ (by simp) rfl)
        obtain rfl:=q1 (hall ⟨1,.guard⟩ (by simp) rfl)
        clear hall ho
        refine wpOp_step rfl (fun K hK=>?_)
        go_simp
        exact hK _ _ ⟨_,_,_,_,_,_,_,_,_,_,_,_,_,rfl,hS,q0,fun _=>rfl,q2,q3,q4,q5,q6,q7,fun _=>rfl,fun _=>rfl,q10,q11,q12⟩
       ·obtain rfl:=Option.some.inj ho
        obtain rfl:=q9 (hall ⟨9,.data⟩ (by simp) rfl)
        obtain rfl:=q1 (hall ⟨1,.guard⟩ (by simp) rfl)
        have z:=(hS.cell (p:=⟨b,off+k * 20,none⟩) hbl).trans x0
        clear hall ho
        refine wpOp_step rfl (fun K hK=>?_)
        go_simp
        exact hK _ _ ⟨_,_,_,_,_,_,_,_,_,_,_,_,_,rfl,hS,q0,fun _=>rfl,q2,q3,q4,q5,q6,q7,q8,fun _=>rfl,fun _=>rfl,q11,q12⟩
       ·obtain rfl:=Option.some.inj ho
        obtain rfl:=q5 (hall ⟨5,.data⟩ (by simp) rfl)
        obtain rfl:=q10 (hall ⟨10,.data⟩ (by simp) rfl)
        obtain rfl:=q1 (hall ⟨1,.guard⟩ (by simp) rfl)
        clear hall ho
        refine wpOp_step rfl (fun K hK=>?_)
        go_simp
        exact hK _ _ ⟨_,_,_,_,_,_,_,_,_,_,_,_,_,rfl,hS,q0,fun _=>rfl,q2,q3,q4,fun _=>rfl,q6,q7,q8,q9,fun _=>rfl,fun _=>rfl,q12⟩
       ·obtain rfl:=Option.some.inj ho
        obtain rfl:=q1 (hall ⟨1,.data⟩ (by simp) rfl)
        obtain rfl:=q11 (hall ⟨11,.data⟩ (by simp) rfl)
        clear hall ho
        refine wpOp_step rfl (fun K hK=>?_)
        go_simp
        exact hK _ _ ⟨_,_,_,_,_,_,_,_,_,_,_,_,_,rfl,hS,q0,fun _=>rfl,q2,q3,q4,q5,q6,q7,q8,q9,q10,fun _=>rfl,fun _=>rfl⟩
      ·rintro fL bA v ⟨v28,v29,v30,v31,v32,v33,v34,v35,v36,v37,v38,v39,v40,rfl,hS,q0,q1,q2,q3,q4,q5,q6,q7,q8,q9,q10,q11,q12⟩ hall
       simp only [Act.put,List.setIfInBounds_toArray,List.set_cons_zero,List.set_cons_succ]
       obtain rfl:=q0 (hall 0 (by omega))
       obtain rfl:=q1 (hall 1 (by omega))
       obtain rfl:=q2 (hall 2 (by omega))
       obtain rfl:=q3 (hall 3 (by omega))
       obtain rfl:=q4 (hall 4 (by omega))
       obtain rfl:=q5 (hall 5 (by omega))
       obtain rfl:=q6 (hall 6 (by omega))
       obtain rfl:=q7 (hall 7 (by omega))
       obtain rfl:=q8 (hall 8 (by omega))
       obtain rfl:=q9 (hall 9 (by omega))
       obtain rfl:=q10 (hall 10 (by omega))
       obtain rfl:=q11 (hall 11 (by omega))
       obtain rfl:=q12 (hall 12 (by omega))
       clear hall
       simp only [List.drop_succ_cons,List.drop_zero]
       have hLu:=hL.below hS
       have y0':=(hS.cell (p:=⟨g4,j,none⟩) hgl).trans y0
       have x0':=(hS.cell (p:=⟨b,off+k * 20,none⟩) hbl).trans x0
       have hgu:=Nat.lt_of_lt_of_le hgl hS.size
       have hbu:=Nat.lt_of_lt_of_le hbl hS.size
       clear x0 y0 hS hL hgl hbl
       have x0:=x0'
       have y0:=y0'
       clear x0' y0'
       obtain ⟨u1,hnm⟩:∃ u,u=v:=⟨_,rfl⟩
       subst hnm
       go_wp2_with fail
       refine wp_region_all (fun a0 fL bA v=>∃ v41 v42 v43 v44 v45 v46 v47 v48 v49 v50:Value,bA=(((((((((a0.put (some 41) v41).put (some 42) v42).put (some 43) v43).put (some 44) v44).put (some 45) v45).put (some 46) v46).put (some 47) v47).put (some 48) v48).put (some 49) v49).put (some 50) v50∧(Below u1.heap.size u1 v)∧(fL 0=true→v41=.slice (some ⟨b,off,none⟩) es.length c)∧(fL 1=true→v42=.int .i64 k)∧(fL 2=true→v43=.pointer (some ⟨b,off+k * 20,none⟩))∧(fL 3=true→v44=.pointer (some ⟨b,off+k * 20,none⟩))∧(fL 4=true→v45=.string ti)∧(fL 5=true→v46=.slice (some ⟨g4,0,none⟩) R.length c4)∧(fL 6=true→v47=.int .i64 j)∧(fL 7=true→v48=.pointer (some ⟨g4,j,none⟩))∧(fL 8=true→v49=.string X)∧(fL 9=true→v50=.bool bs)) (by kernel_rfl) (by decide +kernel) ?_ ?_ ?_
       ·exact ⟨_,_,_,_,_,_,_,_,_,_,put_more (put_more (put_more (put_more (put_more (put_more (put_more (put_more (put_more (put_more (rfl) 41) 42) 43) 44) 45) 46) 47) 48) 49) 50,(Below.refl _ _).drew,nofun,nofun,nofun,nofun,nofun,nofun,nofun,nofun,nofun,nofun⟩
       ·rintro fL bA v ⟨v41,v42,v43,v44,v45,v46,v47,v48,v49,v50,rfl,hS,q0,q1,q2,q3,q4,q5,q6,q7,q8,q9⟩ i hi hf o ho hall
        simp only [Act.put,List.setIfInBounds_toArray,List.set_cons_zero,List.set_cons_succ]
        simp only [List.length_cons,List.length_nil] at hi
        have hn:i=0 ∨ i=1 ∨ i=2 ∨ i=3 ∨ i=4 ∨ i=5 ∨ i=6 ∨ i=7 ∨ i=8 ∨ i=9:=by omega
        clear hi
        rcases hn with rfl | rfl | rfl | rfl | rfl | rfl | rfl | rfl | rfl | rfl
        ·obtain rfl:=Option.some.inj ho
         clear hall ho
         refine wpOp_step rfl (fun K hK=>?_)
         go_simp
         exact hK _ _ ⟨_,_,_,_,_,_,_,_,_,_,rfl,hS,fun _=>rfl,q1,q2,q3,q4,q5,q6,q7,q8,q9⟩
        ·obtain rfl:=Option.some.inj ho
         clear hall ho
         refine wpOp_step rfl (fun K hK=>?_)
         go_simp
         exact hK _ _ ⟨_,_,_,_,_,_,_,_,_,_,rfl,hS,q0,fun _=>rfl,q2,q3,q4,q5,q6,q7,q8,q9⟩
        ·obtain rfl:=Option.some.inj ho
         obtain rfl:=q0 (hall ⟨0,.data⟩ (by simp) rfl)
         obtain rfl:=q1 (hall ⟨1,.data⟩ (by simp) rfl)
         clear hall ho
         refine wpOp_step rfl (fun K hK=>?_)
         go_simp
         exact hK _ _ ⟨_,_,_,_,_,_,_,_,_,_,rfl,hS,fun _=>rfl,fun _=>rfl,fun _=>rfl,q3,q4,q5,q6,q7,q8,q9⟩
        ·obtain rfl:=Option.some.inj ho
         obtain rfl:=q2 (hall ⟨2,.data⟩ (by simp) rfl)
         clear hall ho
         refine wpOp_step rfl (fun K hK=>?_)
         go_simp
         exact hK _ _ ⟨_,_,_,_,_,_,_,_,_,_,rfl,hS,q0,q1,fun _=>rfl,fun _=>rfl,q4,q5,q6,q7,q8,q9⟩
        ·obtain rfl:=Option.some.inj ho
         obtain rfl:=q3 (hall ⟨3,.data⟩ (by simp) rfl)
         have z:=(hS.cell (p:=⟨b,off+k * 20,none⟩) hbu).trans x0
         clear hall ho
         refine wpOp_step rfl (fun K hK=>?_)
         go_simp
         exact hK _ _ ⟨_,_,_,_,_,_,_,_,_,_,rfl,hS,q0,q1,q2,fun _=>rfl,fun _=>rfl,q5,q6,q7,q8,q9⟩
        ·obtain rfl:=Option.some.inj ho
         clear hall ho
         refine wpOp_step rfl (fun K hK=>?_)
         go_simp
         exact hK _ _ ⟨_,_,_,_,_,_,_,_,_,_,rfl,hS,q0,q1,q2,q3,q4,fun _=>rfl,q6,q7,q8,q9⟩
        ·obtain rfl:=Option.some.inj ho
         clear hall ho
         refine wpOp_step rfl (fun K hK=>?_)
         go_simp
         exact hK _ _ ⟨_,_,_,_,_,_,_,_,_,_,rfl,hS,q0,q1,q2,q3,q4,q5,fun _=>rfl,q7,q8,q9⟩
        ·obtain rfl:=Option.some.inj ho
         obtain rfl:=q5 (hall ⟨5,.data⟩ (by simp) rfl)
         obtain rfl:=q6 (hall ⟨6,.data⟩ (by simp) rfl)
         clear hall ho
         refine wpOp_step rfl (fun K hK=>?_)
         go_simp
         exact hK _ _ ⟨_,_,_,_,_,_,_,_,_,_,rfl,hS,q0,q1,q2,q3,q4,fun _=>rfl,fun _=>rfl,fun _=>rfl,q8,q9⟩
        ·obtain rfl:=Option.some.inj ho
         obtain rfl:=q7 (hall ⟨7,.data⟩ (by simp) rfl)
         have z:=(hS.cell (p:=⟨g4,j,none⟩) hgu).trans y0
         clear hall ho
         refine wpOp_step rfl (fun K hK=>?_)
         go_simp
         exact hK _ _ ⟨_,_,_,_,_,_,_,_,_,_,rfl,hS,q0,q1,q2,q3,q4,q5,q6,fun _=>rfl,fun _=>rfl,q9⟩
        ·obtain rfl:=Option.some.inj ho
         obtain rfl:=q4 (hall ⟨4,.data⟩ (by simp) rfl)
         obtain rfl:=q8 (hall ⟨8,.data⟩ (by simp) rfl)
         clear hall ho
         refine wpOp_step rfl (fun K hK=>?_)
         go_simp
         exact hK _ _ ⟨_,_,_,_,_,_,_,_,_,_,rfl,hS,q0,q1,q2,q3,fun _=>rfl,q5,q6,q7,fun _=>rfl,fun _=>rfl⟩
       ·rintro fL bA v ⟨v41,v42,v43,v44,v45,v46,v47,v48,v49,v50,rfl,hS,q0,q1,q2,q3,q4,q5,q6,q7,q8,q9⟩ hall
        simp only [Act.put,List.setIfInBounds_toArray,List.set_cons_zero,List.set_cons_succ]
        simp only [List.length_cons,List.length_nil] at hall
        obtain rfl:=q0 (hall 0 (by omega))
        obtain rfl:=q1 (hall 1 (by omega))
        obtain rfl:=q2 (hall 2 (by omega))
        obtain rfl:=q3 (hall 3 (by omega))
        obtain rfl:=q4 (hall 4 (by omega))
        obtain rfl:=q5 (hall 5 (by omega))
        obtain rfl:=q6 (hall 6 (by omega))
        obtain rfl:=q7 (hall 7 (by omega))
        obtain rfl:=q8 (hall 8 (by omega))
        obtain rfl:=q9 (hall 9 (by omega))
        clear hall
        have hLv2:=hLu.below hS
        clear hS x0 y0 hLu
        cases bs with
        | true =>
         rw [if_pos rfl] at hSn
         go_wp2
         go_roundw
         case rel=>exact ⟨j,j,_,rfl,rfl,by go_num,⟨by omega,by omega⟩,hSn,hLv2⟩
         case measure=>first | (simp [intOf];done) | (simp [intOf];omega)
        | false =>
         rw [if_neg (by simp)] at hSn
         go_wp2
         go_roundw
         case rel=>exact ⟨j,q,_,rfl,rfl,by go_num,⟨by omega,by omega⟩,hSn,hLv2⟩
         case measure=>first | (simp [intOf];done) | (simp [intOf];omega)
     ·rw [Bool.true_or] at hSn
      go_wp2_with fail
      refine wp_region_sink 13 (fun a0 fL bA v=>∃ v28 v29 v30 v31 v32 v33 v34 v35 v36 v37 v38 v39 v40:Value,bA=((((((((((((a0.put (some 28) v28).put (some 29) v29).put (some 30) v30).put (some 31) v31).put (some 32) v32).put (some 33) v33).put (some 34) v34).put (some 35) v35).put (some 36) v36).put (some 37) v37).put (some 38) v38).put (some 39) v39).put (some 40) v40∧(Below wr.heap.size wr v)∧(fL 0=true→v28=.bool true)∧(fL 1=true→v29=.bool true)∧(fL 2=true→v30=undef)∧(fL 3=true→v31=undef)∧(fL 4=true→v32=undef)∧(fL 5=true→v33=undef)∧(fL 6=true→v34=undef)∧(fL 7=true→v35=undef)∧(fL 8=true→v36=undef)∧(fL 9=true→v37=undef)∧(fL 10=true→v38=undef)∧(fL 11=true→v39=undef)∧(fL 12=true→v40=.bool true)) (by kernel_rfl) (by decide +kernel) ?_ ?_ ?_
      ·exact ⟨_,_,_,_,_,_,_,_,_,_,_,_,_,put_more (put_more (put_more (put_more (put_more (put_more (put_more (put_more (put_more (put_more (put_more (put_more (put_more (rfl) 28) 29) 30) 31) 32) 33) 34) 35) 36) 37) 38) 39) 40,(Below.refl _ _).drew,nofun,nofun,nofun,nofun,nofun,nofun,nofun,nofun,nofun,nofun,nofun,nofun,nofun⟩
      ·rintro fL bA v ⟨v28,v29,v30,v31,v32,v33,v34,v35,v36,v37,v38,v39,v40,rfl,hS,q0,q1,q2,q3,q4,q5,q6,q7,q8,q9,q10,q11,q12⟩ i hi hf o ho hall
       simp only [Act.put,List.setIfInBounds_toArray,List.set_cons_zero,List.set_cons_succ]
       have hn:i=0 ∨ i=1 ∨ i=2 ∨ i=3 ∨ i=4 ∨ i=5 ∨ i=6 ∨ i=7 ∨ i=8 ∨ i=9 ∨ i=10 ∨ i=11 ∨ i=12:=by omega
       clear hi
       rcases hn with rfl | rfl | rfl | rfl | rfl | rfl | rfl | rfl | rfl | rfl | rfl | rfl | rfl
       ·obtain rfl:=Option.some.inj ho
        clear hall ho
        refine wpOp_step rfl (fun K hK=>?_)
        go_simp
        exact hK _ _ ⟨_,_,_,_,_,_,_,_,_,_,_,_,_,rfl,hS,fun _=>rfl,q1,q2,q3,q4,q5,q6,q7,q8,q9,q10,q11,q12⟩
       ·obtain rfl:=Option.some.inj ho
        obtain rfl:=q0 (hall ⟨0,.data⟩ (by simp) rfl)
        clear hall ho
        refine wpOp_step rfl (fun K hK=>?_)
        go_simp
        exact hK _ _ ⟨_,_,_,_,_,_,_,_,_,_,_,_,_,rfl,hS,fun _=>rfl,fun _=>rfl,q2,q3,q4,q5,q6,q7,q8,q9,q10,q11,q12⟩
       ·obtain rfl:=Option.some.inj ho
        obtain rfl:=q1 (hall ⟨1,.guard⟩ (by simp) rfl)
        clear hall ho
        refine wpOp_step rfl (fun K hK=>?_)
        go_simp
        exact hK _ _ ⟨_,_,_,_,_,_,_,_,_,_,_,_,_,rfl,hS,q0,fun _=>rfl,fun _=>rfl,q3,q4,q5,q6,q7,q8,q9,q10,q11,q12⟩
       ·obtain rfl:=Option.some.inj ho
        obtain rfl:=q1 (hall ⟨1,.guard⟩ (by simp) rfl)
        clear hall ho
        refine wpOp_step rfl (fun K hK=>?_)
        go_simp
        exact hK _ _ ⟨_,_,_,_,_,_,_,_,_,_,_,_,_,rfl,hS,q0,fun _=>rfl,q2,fun _=>rfl,q4,q5,q6,q7,q8,q9,q10,q11,q12⟩
       ·obtain rfl:=Option.some.inj ho
        obtain rfl:=q2 (hall ⟨2,.data⟩ (by simp) rfl)
        obtain rfl:=q3 (hall ⟨3,.data⟩ (by simp) rfl)
        obtain rfl:=q1 (hall ⟨1,.guard⟩ (by simp) rfl)
        clear hall ho
        refine wpOp_step rfl (fun K hK=>?_)
        go_simp
        exact hK _ _ ⟨_,_,_,_,_,_,_,_,_,_,_,_,_,rfl,hS,q0,fun _=>rfl,fun _=>rfl,fun _=>rfl,fun _=>rfl,q5,q6,q7,q8,q9,q10,q11,q12⟩
       ·obtain rfl:=Option.some.inj ho
        obtain rfl:=q4 (hall ⟨4,.data⟩ (by simp) rfl)
        obtain rfl:=q1 (hall ⟨1,.guard⟩ (by simp) rfl)
        clear hall ho
        refine wpOp_step rfl (fun K hK=>?_)
        go_simp
        exact hK _ _ ⟨_,_,_,_,_,_,_,_,_,_,_,_,_,rfl,hS,q0,fun _=>rfl,q2,q3,fun _=>rfl,fun _=>rfl,q6,q7,q8,q9,q10,q11,q12⟩
       ·obtain rfl:=Option.some.inj ho
        obtain rfl:=q1 (hall ⟨1,.guard⟩ (by simp) rfl)
        clear hall ho
        refine wpOp_step rfl (fun K hK=>?_)
        go_simp
        exact hK _ _ ⟨_,_,_,_,_,_,_,_,_,_,_,_,_,rfl,hS,q0,fun _=>rfl,q2,q3,q4,q5,fun _=>rfl,q7,q8,q9,q10,q11,q12⟩
       ·obtain rfl:=Option.some.inj ho
        obtain rfl:=q1 (hall ⟨1,.guard⟩ (by simp) rfl)
        clear hall ho
        refine wpOp_step rfl (fun K hK=>?_)
        go_simp
        exact hK _ _ ⟨_,_,_,_,_,_,_,_,_,_,_,_,_,rfl,hS,q0,fun _=>rfl,q2,q3,q4,q5,q6,fun _=>rfl,q8,q9,q10,q11,q12⟩
       ·obtain rfl:=Option.some.inj ho
        obtain rfl:=q6 (hall ⟨6,.data⟩ (by simp) rfl)
        obtain rfl:=q7 (hall ⟨7,.data⟩ (by simp) rfl)
        obtain rfl:=q1 (hall ⟨1,.guard⟩ (by simp) rfl)
        clear hall ho
        refine wpOp_step rfl (fun K hK=>?_)
        go_simp
        exact hK _ _ ⟨_,_,_,_,_,_,_,_,_,_,_,_,_,rfl,hS,q0,fun _=>rfl,q2,q3,q4,q5,fun _=>rfl,fun _=>rfl,fun _=>rfl,q9,q10,q11,q12⟩
       ·obtain rfl:=Option.some.inj ho
        obtain rfl:=q8 (hall ⟨8,.data⟩ (by simp) rfl)
        obtain rfl:=q1 (hall ⟨1,.guard⟩ (by simp) rfl)
        clear hall ho
        refine wpOp_step rfl (fun K hK=>?_)
        go_simp
        exact hK _ _ ⟨_,_,_,_,_,_,_,_,_,_,_,_,_,rfl,hS,q0,fun _=>rfl,q2,q3,q4,q5,q6,q7,fun _=>rfl,fun _=>rfl,q10,q11,q12⟩
       ·obtain rfl:=Option.some.inj ho
        obtain rfl:=q9 (hall ⟨9,.data⟩ (by simp) rfl)
        obtain rfl:=q1 (hall ⟨1,.guard⟩ (by simp) rfl)
        clear hall ho
        refine wpOp_step rfl (fun K hK=>?_)
        go_simp
        exact hK _ _ ⟨_,_,_,_,_,_,_,_,_,_,_,_,_,rfl,hS,q0,fun _=>rfl,q2,q3,q4,q5,q6,q7,q8,fun _=>rfl,fun _=>rfl,q11,q12⟩
       ·obtain rfl:=Option.some.inj ho
        obtain rfl:=q5 (hall ⟨5,.data⟩ (by simp) rfl)
        obtain rfl:=q10 (hall ⟨10,.data⟩ (by simp) rfl)
        obtain rfl:=q1 (hall ⟨1,.guard⟩ (by simp) rfl)
        clear hall ho
        refine wpOp_step rfl (fun K hK=>?_)
        go_simp
        exact hK _ _ ⟨_,_,_,_,_,_,_,_,_,_,_,_,_,rfl,hS,q0,fun _=>rfl,q2,q3,q4,fun _=>rfl,q6,q7,q8,q9,fun _=>rfl,fun _=>rfl,q12⟩
       ·obtain rfl:=Option.some.inj ho
        obtain rfl:=q1 (hall ⟨1,.data⟩ (by simp) rfl)
        obtain rfl:=q11 (hall ⟨11,.data⟩ (by simp) rfl)
        clear hall ho
        refine wpOp_step rfl (fun K hK=>?_)
        go_simp
        exact hK _ _ ⟨_,_,_,_,_,_,_,_,_,_,_,_,_,rfl,hS,q0,fun _=>rfl,q2,q3,q4,q5,q6,q7,q8,q9,q10,fun _=>rfl,fun _=>rfl⟩
      ·rintro fL bA v ⟨v28,v29,v30,v31,v32,v33,v34,v35,v36,v37,v38,v39,v40,rfl,hS,q0,q1,q2,q3,q4,q5,q6,q7,q8,q9,q10,q11,q12⟩ hall
       simp only [Act.put,List.setIfInBounds_toArray,List.set_cons_zero,List.set_cons_succ]
       obtain rfl:=q0 (hall 0 (by omega))
       obtain rfl:=q1 (hall 1 (by omega))
       obtain rfl:=q2 (hall 2 (by omega))
       obtain rfl:=q3 (hall 3 (by omega))
       obtain rfl:=q4 (hall 4 (by omega))
       obtain rfl:=q5 (hall 5 (by omega))
       obtain rfl:=q6 (hall 6 (by omega))
       obtain rfl:=q7 (hall 7 (by omega))
       obtain rfl:=q8 (hall 8 (by omega))
       obtain rfl:=q9 (hall 9 (by omega))
       obtain rfl:=q10 (hall 10 (by omega))
       obtain rfl:=q11 (hall 11 (by omega))
       obtain rfl:=q12 (hall 12 (by omega))
       clear hall
       simp only [List.drop_succ_cons,List.drop_zero]
       have hLu:=hL.below hS
       have y0':=(hS.cell (p:=⟨g4,j,none⟩) hgl).trans y0
       have x0':=(hS.cell (p:=⟨b,off+k * 20,none⟩) hbl).trans x0
       have hgu:=Nat.lt_of_lt_of_le hgl hS.size
       have hbu:=Nat.lt_of_lt_of_le hbl hS.size
       clear x0 y0 hS hL hgl hbl
       have x0:=x0'
       have y0:=y0'
       clear x0' y0'
       obtain ⟨u1,hnm⟩:∃ u,u=v:=⟨_,rfl⟩
       subst hnm
       go_wp2_with fail
       refine wp_region_all (fun a0 fL bA v=>∃ v41 v42 v43 v44 v45 v46 v47 v48 v49 v50:Value,bA=(((((((((a0.put (some 41) v41).put (some 42) v42).put (some 43) v43).put (some 44) v44).put (some 45) v45).put (some 46) v46).put (some 47) v47).put (some 48) v48).put (some 49) v49).put (some 50) v50∧(Below u1.heap.size u1 v)∧(fL 0=true→v41=.slice (some ⟨b,off,none⟩) es.length c)∧(fL 1=true→v42=.int .i64 k)∧(fL 2=true→v43=.pointer (some ⟨b,off+k * 20,none⟩))∧(fL 3=true→v44=.pointer (some ⟨b,off+k * 20,none⟩))∧(fL 4=true→v45=.string ti)∧(fL 5=true→v46=.slice (some ⟨g4,0,none⟩) R.length c4)∧(fL 6=true→v47=.int .i64 j)∧(fL 7=true→v48=.pointer (some ⟨g4,j,none⟩))∧(fL 8=true→v49=.string X)∧(fL 9=true→v50=.bool bs)) (by kernel_rfl) (by decide +kernel) ?_ ?_ ?_
       ·exact ⟨_,_,_,_,_,_,_,_,_,_,put_more (put_more (put_more (put_more (put_more (put_more (put_more (put_more (put_more (put_more (rfl) 41) 42) 43) 44) 45) 46) 47) 48) 49) 50,(Below.refl _ _).drew,nofun,nofun,nofun,nofun,nofun,nofun,nofun,nofun,nofun,nofun⟩
       ·rintro fL bA v ⟨v41,v42,v43,v44,v45,v46,v47,v48,v49,v50,rfl,hS,q0,q1,q2,q3,q4,q5,q6,q7,q8,q9⟩ i hi hf o ho hall
        simp only [Act.put,List.setIfInBounds_toArray,List.set_cons_zero,List.set_cons_succ]
        simp only [List.length_cons,List.length_nil] at hi
        have hn:i=0 ∨ i=1 ∨ i=2 ∨ i=3 ∨ i=4 ∨ i=5 ∨ i=6 ∨ i=7 ∨ i=8 ∨ i=9:=by omega
        clear hi
        rcases hn with rfl | rfl | rfl | rfl | rfl | rfl | rfl | rfl | rfl | rfl
        ·obtain rfl:=Option.some.inj ho
         clear hall ho
         refine wpOp_step rfl (fun K hK=>?_)
         go_simp
         exact hK _ _ ⟨_,_,_,_,_,_,_,_,_,_,rfl,hS,fun _=>rfl,q1,q2,q3,q4,q5,q6,q7,q8,q9⟩
        ·obtain rfl:=Option.some.inj ho
         clear hall ho
         refine wpOp_step rfl (fun K hK=>?_)
         go_simp
         exact hK _ _ ⟨_,_,_,_,_,_,_,_,_,_,rfl,hS,q0,fun _=>rfl,q2,q3,q4,q5,q6,q7,q8,q9⟩
        ·obtain rfl:=Option.some.inj ho
         obtain rfl:=q0 (hall ⟨0,.data⟩ (by simp) rfl)
         obtain rfl:=q1 (hall ⟨1,.data⟩ (by simp) rfl)
         clear hall ho
         refine wpOp_step rfl (fun K hK=>?_)
         go_simp
         exact hK _ _ ⟨_,_,_,_,_,_,_,_,_,_,rfl,hS,fun _=>rfl,fun _=>rfl,fun _=>rfl,q3,q4,q5,q6,q7,q8,q9⟩
        ·obtain rfl:=Option.some.inj ho
         obtain rfl:=q2 (hall ⟨2,.data⟩ (by simp) rfl)
         clear hall ho
         refine wpOp_step rfl (fun K hK=>?_)
         go_simp
         exact hK _ _ ⟨_,_,_,_,_,_,_,_,_,_,rfl,hS,q0,q1,fun _=>rfl,fun _=>rfl,q4,q5,q6,q7,q8,q9⟩
        ·obtain rfl:=Option.some.inj ho
         obtain rfl:=q3 (hall ⟨3,.data⟩ (by simp) rfl)
         have z:=(hS.cell (p:=⟨b,off+k * 20,none⟩) hbu).trans x0
         clear hall ho
         refine wpOp_step rfl (fun K hK=>?_)
         go_simp
         exact hK _ _ ⟨_,_,_,_,_,_,_,_,_,_,rfl,hS,q0,q1,q2,fun _=>rfl,fun _=>rfl,q5,q6,q7,q8,q9⟩
        ·obtain rfl:=Option.some.inj ho
         clear hall ho
         refine wpOp_step rfl (fun K hK=>?_)
         go_simp
         exact hK _ _ ⟨_,_,_,_,_,_,_,_,_,_,rfl,hS,q0,q1,q2,q3,q4,fun _=>rfl,q6,q7,q8,q9⟩
        ·obtain rfl:=Option.some.inj ho
         clear hall ho
         refine wpOp_step rfl (fun K hK=>?_)
         go_simp
         exact hK _ _ ⟨_,_,_,_,_,_,_,_,_,_,rfl,hS,q0,q1,q2,q3,q4,q5,fun _=>rfl,q7,q8,q9⟩
        ·obtain rfl:=Option.some.inj ho
         obtain rfl:=q5 (hall ⟨5,.data⟩ (by simp) rfl)
         obtain rfl:=q6 (hall ⟨6,.data⟩ (by simp) rfl)
         clear hall ho
         refine wpOp_step rfl (fun K hK=>?_)
         go_simp
         exact hK _ _ ⟨_,_,_,_,_,_,_,_,_,_,rfl,hS,q0,q1,q2,q3,q4,fun _=>rfl,fun _=>rfl,fun _=>rfl,q8,q9⟩
        ·obtain rfl:=Option.some.inj ho
         obtain rfl:=q7 (hall ⟨7,.data⟩ (by simp) rfl)
         have z:=(hS.cell (p:=⟨g4,j,none⟩) hgu).trans y0
         clear hall ho
         refine wpOp_step rfl (fun K hK=>?_)
         go_simp
         exact hK _ _ ⟨_,_,_,_,_,_,_,_,_,_,rfl,hS,q0,q1,q2,q3,q4,q5,q6,fun _=>rfl,fun _=>rfl,q9⟩
        ·obtain rfl:=Option.some.inj ho
         obtain rfl:=q4 (hall ⟨4,.data⟩ (by simp) rfl)
         obtain rfl:=q8 (hall ⟨8,.data⟩ (by simp) rfl)
         clear hall ho
         refine wpOp_step rfl (fun K hK=>?_)
         go_simp
         exact hK _ _ ⟨_,_,_,_,_,_,_,_,_,_,rfl,hS,q0,q1,q2,q3,fun _=>rfl,q5,q6,q7,fun _=>rfl,fun _=>rfl⟩
       ·rintro fL bA v ⟨v41,v42,v43,v44,v45,v46,v47,v48,v49,v50,rfl,hS,q0,q1,q2,q3,q4,q5,q6,q7,q8,q9⟩ hall
        simp only [Act.put,List.setIfInBounds_toArray,List.set_cons_zero,List.set_cons_succ]
        simp only [List.length_cons,List.length_nil] at hall
        obtain rfl:=q0 (hall 0 (by omega))
        obtain rfl:=q1 (hall 1 (by omega))
        obtain rfl:=q2 (hall 2 (by omega))
        obtain rfl:=q3 (hall 3 (by omega))
        obtain rfl:=q4 (hall 4 (by omega))
        obtain rfl:=q5 (hall 5 (by omega))
        obtain rfl:=q6 (hall 6 (by omega))
        obtain rfl:=q7 (hall 7 (by omega))
        obtain rfl:=q8 (hall 8 (by omega))
        obtain rfl:=q9 (hall 9 (by omega))
        clear hall
        have hLv2:=hLu.below hS
        clear hS x0 y0 hLu
        cases bs with
        | true =>
         rw [if_pos rfl] at hSn
         go_wp2
         go_roundw
         case rel=>exact ⟨j,j,_,rfl,rfl,by go_num,⟨by omega,by omega⟩,hSn,hLv2⟩
         case measure=>first | (simp [intOf];done) | (simp [intOf];omega)
        | false =>
         rw [if_neg (by simp)] at hSn
         go_wp2
         go_roundw
         case rel=>exact ⟨j,q,_,rfl,rfl,by go_num,⟨by omega,by omega⟩,hSn,hLv2⟩
         case measure=>first | (simp [intOf];done) | (simp [intOf];omega)
    ·obtain rfl:j=0:=by omega
     rw [show (((0:Nat):Int) - 1)=-1 from rfl]
     have hmem:Hid (∀ x,x ∈ T.take (k+1) ↔ x ∈ R ∨ x=ti.data.toList):=Lib.hid (fun x=>by rw [hnx.out,List.mem_append,← hI.out.2,List.mem_singleton])
     cases tb with
     | true =>
      have hI2:Hid (LStrict ltStr R∧∀ x,x ∈ R ↔ x ∈ T.take (k+1)):=Lib.hid ⟨hI.out.1,fun x=>by
       rw [hmem.out]
       exact ⟨.inl,fun h=>h.elim id (fun e=>e ▸ hSc.out.there)⟩⟩
      go_wp2
      go_roundw
      case rel=>exact ⟨k+1,R,g4,c4,by omega,by go_num,rfl,hL,by omega,hI2⟩
      case measure=>first | (simp [intOf];done) | (simp [intOf];omega)
     | false =>
      have hput:=hSc.out.put hI.out.1
      have HN:Hid (LStrict ltStr (R.take q ++ [ti.data.toList] ++ R.drop q)∧∀ x,x ∈ R.take q ++ [ti.data.toList] ++ R.drop q ↔ x ∈ T.take (k+1)):=Lib.hid ⟨hput.1,fun x=>by rw [hput.2,hmem.out]⟩
      have c0:=HX.out _ hL.hb
      have hO:=hL.o
      have hb:=hL.hb
      have hsl:=hO.sl
      have hbs:=hb.size
      have hcap:R.length ≤ c4:=hc4
      have hlen1:((R.map sc).take q).length=q:=by simp;omega
      have hlen2:((R.map sc).drop q).length=R.length - q:=by simp
      have HL1:=Lib.hid hlen1
      have HL2:=Lib.hid hlen2
      have HRk:=Lib.hid hRl
      have HSL:=Lib.hid hsl
      obtain ⟨w2,hw2⟩:∃ u,u=wr:=⟨_,rfl⟩
      subst hw2
      clear hlen1 hlen2 hsl hput hSc hL
      have hAll:=Lib.hid (fun W (h:RowKit.Below w2.heap.size w2 W)=>(⟨h,below_keepc h c0⟩:RowKit.Below w2.heap.size w2 W∧W.cell? ⟨b,off+k * 20,none⟩=some (.string ti)))
      have t1:=Lib.hid trivial
      have p0:(0:Int) ≤ (q:Int):=by omega
      have p1:(q:Int) ≤ (R.length:Int):=by omega
      have p2:(R.length:Int) ≤ (c4:Int):=by omega
      have p3:(q:Int) ≤ (c4:Int):=by omega
      have p4:(0:Int) ≤ (R.length:Int):=by omega
      have hrun:=fun W=>run_slice_fromK (P:=Tryz.prog) W 60 9 1 Tryz.underlying60 (fun _=>by kernel_rfl) g4 R.length c4 q hq (by omega)
      have hrun2:=fun W=>run_slice_to (P:=Tryz.prog) W 60 9 1 Tryz.underlying60 (fun _=>by kernel_rfl) (some ⟨g4,0,none⟩) R.length c4 q (by omega)
      have hdr:=HSL.out.drop (m:=q) (cap:=c4) (by simp;omega) (by simp;omega)
      obtain ⟨AD,hAD⟩:∃ AD,AD=(if c4=q then some (⟨g4,0,none⟩:Addr) else (some (⟨g4,0,none⟩:Addr)).map (·.add (q * 1))):=⟨_,rfl⟩
      rw [← hAD] at hdr
      simp only [← hAD] at hrun
      have HDR:=Lib.hid hdr
      clear hdr hAD
      go_wp2_with fail
      go_region_held3 (fun w'=>RowKit.Below w2.heap.size w2 w'∧w'.cell? ⟨b,off+k * 20,none⟩=some (.string ti))
       (first | exact hAll.out _ (RowKit.Below.drew (RowKit.Below.refl _ _)) | assumption | exact hAll.out _ (by assumption) | exact hAll.out _ (belX_alloc (by assumption) _ (Nat.le_refl _)) | fail)
       ((first | (have _t:=t1;refine step_append_rows _ rfl _ _ _ (by rfl) w2.heap.size 9 ii _ 1 16 Tryz.underlying60 hi hz0 hz1 hz2 rfl (by omega) _ [] (by rfl) (Own.of_empty (by first | exact Blk.new' _ _ _ (by simp) | exact (Blk.new' _ _ _ (by simp)).alloc _) (by simp)) w2.heap.size _ _ _ ((R.map sc).take q) (by rfl) HL1.out ((HSL.out.below (belX (by assumption))).take q) strT (by simp;unfold maxLen;omega) (by simp;omega) (RowKit.Below.size (belX (by assumption))) ?_;intro v1 w3 hO3 hg3 hat3;have hb3:RowKit.Below w2.heap.size w2 w3:=below_app (belX (by assumption)) hg3 (RowKit.Below.size (belX (by assumption))) (fun g hg=>by simp [Value.ownBlock] at hg;omega);(try have BL1:Blk w3 w2.heap.size 9 #[.string ti]:=(hg3.block _ (by first | (simp;omega) | simp) (by simp [Value.ownBlock])).trans ((Blk.new' _ _ _ (by simp)).alloc _));(try have BL1:Blk w3 (w2.heap.size+1) 9 #[.string ti]:=(hg3.block _ (by first | (simp;omega) | simp) (by simp [Value.ownBlock])).trans (Blk.new' _ _ _ (by simp)));clear t1;have t2:=Lib.hid trivial) | (have _t:=t2;refine step_append_rows _ rfl _ _ _ (by rfl) w2.heap.size 9 ii _ 1 16 Tryz.underlying60 hi hz0 hz1 hz2 rfl (by omega) _ _ (by rfl) (by first | exact hO3 | exact hO3.alloc _) _ _ _ _ ([ti.data.toList].map sc) (by rfl) rfl (Sl.of_blk (by first | exact BL1 | exact Blk.new' _ _ _ (by first | rfl | simp)) _ rfl (by intro y hy;simp only [List.map_cons,List.map_nil,List.mem_singleton] at hy;subst hy;rfl)) (sc_one (x:=[ti.data.toList])) (by simp;unfold maxLen;omega) (by simp;omega) (RowKit.Below.size (belX (by assumption))) ?_;intro v2 w4 hO4 hg4 hat4;have hb4:RowKit.Below w2.heap.size w2 w4:=below_app (belX (by assumption)) hg4 (RowKit.Below.size (belX (by assumption))) hO3.ownGe;clear t2;have t3:=Lib.hid trivial) | (have _t:=t3;refine step_append_rows _ rfl _ _ _ (by rfl) w2.heap.size 9 ii _ 1 16 Tryz.underlying60 hi hz0 hz1 hz2 rfl (by omega) _ _ (by rfl) hO4 w2.heap.size _ _ _ ((R.map sc).drop q) (by rfl) HL2.out (HDR.out.below (belX (by assumption))) strD (by simp;unfold maxLen;omega) (by simp;omega) (RowKit.Below.size (belX (by assumption))) ?_;intro v3 w5 hO5 hg5 hat5;have hb5:RowKit.Below w2.heap.size w2 w5:=below_app (belX (by assumption)) hg5 (RowKit.Below.size (belX (by assumption))) hO4.ownGe;clear t3)))
      all_goals go_wp2
      all_goals
       have hrows:[] ++ (R.map sc).take q ++ [ti.data.toList].map sc ++ (R.map sc).drop q=(R.take q ++ [ti.data.toList] ++ R.drop q).map sc:=by simp
       rw [hrows] at hO5
       obtain ⟨g5,c5,hv5⟩:=hO5.some_ (by simp;omega)
       have hlen5:(R.take q ++ [ti.data.toList] ++ R.drop q).length ≤ k+1:=by have:=HRk.out;simp;omega
       clear hrows
       go_roundw
       case rel=>exact ⟨k+1,R.take q ++ [ti.data.toList] ++ R.drop q,g5,c5,by omega,by go_num,by rw [hv5];simp,⟨hb.trans (hb5.mono hbs),hO5.mono hbs⟩,hlen5,HN⟩
       case measure=>first | (simp [intOf];done) | (simp [intOf];omega)
  ·have:k=es.length:=by omega
   subst this
   obtain ⟨h1,h2⟩:=hI.out
   rw [hall.out] at h2
   obtain rfl:=hof.out R h1 h2
   have hO:=hL.o
   have hbw:=hL.hb
   clear hL
   go_wp2
   go_ret2
   exact ⟨_,c4,rfl,hO,hbw⟩
end Go.Proofs.YtednjmldjbndhaaGreatDoor
