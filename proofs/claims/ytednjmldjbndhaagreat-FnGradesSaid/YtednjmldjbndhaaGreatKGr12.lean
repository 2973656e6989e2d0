/- The usual plan of a chain: the program's. Conditions: the rule has ScaleC on both parts; the chain is valid. The angle of a figure grows strictly with its digits. The growth of the lower bits is counted by the kernel. No program. The figures round a number of units: plain. No program. sort.Search at a function value that only computes. Condition: from some place r on it answers true, and before it false. -/
import Derived.Lib.SliceRun
import Derived.Shelf.Abstract
import Derived.Test.YtednjmldjbndhaaGreatKGr1
import Derived.Test.YtednjmldjbndhaaGreatKGr11
import Derived.Test.YtednjmldjbndhaaGreatKGr3
set_option linter.unusedSimpArgs false
set_option linter.unusedVariables false
set_option maxRecDepth 100000
set_option maxHeartbeats 8000000
namespace Go.Proofs.YtednjmldjbndhaaGreat
open Go.RowKit
theorem run_slice_at {P:Program} (W:World) (t e:TypeId) (k:Nat) (ht:P.underlying t=some (.slice e)) (hz:∀ w,(Go.sizeOf e).run P w=.ok k w) (A:Option Addr) (n cap lo:Nat) (h1:lo ≤ n) (_:n ≤ cap) (hA:∃ b off,A=some ⟨b,off,none⟩) :
  (Instr.slice t (.slice A n cap) (some (.int .i64 (lo:Int))) none none).run P W=.ok (.slice (if cap=lo then A else A.map (·.add (lo * k))) (n - lo) (cap - lo)) W:=by
 obtain ⟨b,off,rfl⟩:=hA
 have ht':P.underlying t=some (.slice (P.elem t)):=by simp [Program.elem,ht]
 have he:P.elem t=e:=by simp [Program.elem,ht]
 rw [run_slice_l W t _ _ _ ht' .i64 _ (by omega) (by omega),he,hz]
 by_cases h0:cap=lo
 ·simp [Result.andThen,sliced,h0]
 ·simp [Result.andThen,sliced,h0]
theorem term_c {w0:World} {A1:Option Addr} {l1:List Int} {A2:Option Addr} {l2:List Int} (R:RuleIn w0 A1 l1 A2 l2) (L:Int) (c1 c2:Nat) (g:Nat) (p:PS) (mv:Value) (t:Term) (w:World)
  (P:PlAt w0 g L A1 l1.length c1 A2 l2.length c2 p mv w) (hg:w0.heap.size ≤ g) (hp:okP p) (ht:termOK t=true) (hr:p.ms.length ≤ 900) :
  Calls Tryz.prog 116 #[.pointer (some ⟨g,0,none⟩),.agg #[.int .i64 t.digits,.int .i64 t.tens,.bool t.div]] w fun e w'=>e=.returned (.tuple #[])∧∃ mv',PlAt w0 g L A1 l1.length c1 A2 l2.length c2 (termP p t) mv' w'∧Spare w w' g mv mv':=by
 obtain ⟨d,te,di⟩:=t
 obtain ⟨sh,cu,ms,en⟩:=p
 cases di with
 | true=>exact termDiv_c R L c1 c2 g _ mv d te w P hg hp ht hr
 | false =>
  cases en with
  | false=>exact termRest1_c R L c1 c2 g sh cu ms mv d te w P hg hp ht hr
  | true =>
   cases hf:fitsB sh d with
   | true=>exact termFit_c R L c1 c2 g sh cu ms mv d te w P hg hp ht hr hf
   | false=>exact termRest2_c R L c1 c2 g sh cu ms mv d te w P hg hp ht hr hf
def PlanPost (ms:List Move) (sh cu:Int) (w:World) (e:Ending) (w':World):Prop :=
 ∃ A' c',e=.returned (.tuple #[.slice A' ms.length c',.agg #[.int .i64 sh,.int .i64 cu]])∧Own w' w.heap.size 75 4 (.slice A' ms.length c') (ms.map Move.cells)∧Below w.heap.size w w'
theorem usualPlan_c (L:Int) (A1:Option Addr) (c1:Nat) (l1:List Int) (A2:Option Addr) (c2:Nat) (l2:List Int) (A3:Option Addr) (c3:Nat) (l:List Term) (w:World) (R:RuleIn w A1 l1 A2 l2)
  (h0:0 < l.length) (h6:l.length ≤ 6) (hc3:l.length ≤ c3) (hall:l.all termOK=true) (hs:Sl w w.heap.size 3 A3 (l.map Term.cells)) :
  Calls Tryz.prog 60 #[.agg #[.int .i64 L,.slice A1 l1.length c1,.slice A2 l2.length c2],.slice A3 l.length c3] w (PlanPost (usualP l).ms (usualP l).sh (usualP l).cu w):=by
 have Heq:=Lib.hid (usualP_eq h0)
 have Hfold:=Lib.hid (fun k (h1:1 ≤ k) (hk:k ≤ l.length)=>okP_fold hall h1 hk)
 have Hall:=Lib.hid (fun k (hk:k < l.length)=>List.all_eq_true.1 hall l[k] (List.getElem_mem hk))
 have hfb:=(term_bd (Hall.out 0 h0)).1
 obtain ⟨b,off,hA,hbB,hc⟩:=hs.at_ (i:=0) (by simpa using h0)
 simp only [List.getElem_map] at hc
 have c0:w.cell? ⟨b,off,none⟩=some (.int .i64 l[0].digits):=by have:=hc 0 _ rfl;simpa using this
 have c1':w.cell? ⟨b,off+1,none⟩=some (.int .i64 l[0].tens):=by have:=hc 1 _ rfl;simpa using this
 clear hc hall
 have hrun:∀ W,(Instr.slice 27 (.slice A3 l.length c3) (some (.int .i64 1)) none none).run Tryz.prog W=.ok (.slice (if c3=1 then A3 else A3.map (·.add (1 * 3))) (l.length - 1) (c3 - 1)) W:=fun W=>run_slice_at (P:=Tryz.prog) W 27 100 3 Tryz.underlying27 (fun _=>by kernel_rfl) A3 l.length c3 1 (by omega) hc3 ⟨b,off,hA⟩
 have hdr:=hs.drop (m:=1) (cap:=c3) (by simp;omega) (by simp;omega)
 obtain ⟨AD,hAD⟩:∃ AD,AD=(if c3=1 then A3 else A3.map (·.add (1 * 3))):=⟨_,rfl⟩
 rw [← hAD] at hdr
 simp only [← hAD] at hrun
 clear hAD
 subst hA
 have HDR:=Lib.hid hdr
 clear hdr hs
 have h0I:(0:Int) < (l.length:Int):=by omega
 have hd0:(l[0]).digits=l[0].digits:=rfl
 have P0:PlAt w (w.heap.size+1+1) L A1 l1.length c1 A2 l2.length c2 ⟨0,0,[],false⟩ (.slice none 0 0) (((w.alloc (.cells #[.int .i64 L,.slice A1 l1.length c1,.slice A2 l2.length c2] 26)).alloc (.cells #[.int .i64 0,.int .i64 0] 104)).alloc (.cells #[.int .i64 L,.slice A1 l1.length c1,.slice A2 l2.length c2,.int .i64 0,.int .i64 0,.slice none 0 0,.bool false] 150)) :=
  ⟨(by repeat first | with_reducible (first | exact Below.refl _ _ | apply below_drewN' | apply Below.drew | refine Below.alloc ?_ ?_ _ | refine Below.setCell ?_ ?_ _) | exact Below.refl _ _ | omega | (simp <;> omega) | (have:=(Below.refl _ _).size;first | omega | (simp <;> omega))),Blk.new' _ _ _ (by simp),Own.nil_⟩
 have B50:Blk (((w.alloc (.cells #[.int .i64 L,.slice A1 l1.length c1,.slice A2 l2.length c2] 26)).alloc (.cells #[.int .i64 0,.int .i64 0] 104)).alloc (.cells #[.int .i64 L,.slice A1 l1.length c1,.slice A2 l2.length c2,.int .i64 0,.int .i64 0,.slice none 0 0,.bool false] 150)) (w.heap.size+1) 104 #[.int .i64 0,.int .i64 0]:=(Blk.new' _ _ _ (by simp)).alloc _
 have HD:=fun W PW=>Lib.hid (doP_c R L c1 c2 (w.heap.size+1+1) ⟨0,0,[],false⟩ (.slice none 0 0) 0 l[0].digits l[0].tens W PW (by omega) (by omega) (by simp only;omega) (fun _=>hfb) (by simp))
 have Hh:Hid (mvP ⟨0,0,[],false⟩ 0 l[0].digits l[0].tens false=foldP (headP l[0]) l 1):=by unfold Hid;rw [foldP_one];rfl
 generalize l[0].digits=d0 at *
 generalize l[0].tens=t0 at *
 have hbB1:b < w.heap.size+1:=by omega
 have hbB2:b < w.heap.size+1+1:=by omega
 have hbB2':b < w.heap.size+2:=by omega
 go_enter Tryz.func60,Tryz.ntmps60
 go_wp2_with fail
 generalize (((w.alloc (.cells #[.int .i64 L,.slice A1 l1.length c1,.slice A2 l2.length c2] 26)).alloc (.cells #[.int .i64 0,.int .i64 0] 104)).alloc (.cells #[.int .i64 L,.slice A1 l1.length c1,.slice A2 l2.length c2,.int .i64 0,.int .i64 0,.slice none 0 0,.bool false] 150))=W at *
 refine Calls.mono (HD W P0).out ?_;rintro e w1 ⟨rfl,mv1,P1,hS1⟩
 have P1:PlAt w (w.heap.size+1+1) L A1 l1.length c1 A2 l2.length c2 (foldP (headP l[0]) l 1) mv1 w1:=by rw [← Hh.out];exact P1
 obtain ⟨B51,n51⟩:=hS1.blk B50 (by omega) (by simp [Value.ownBlock])
 clear P0 B50 hS1 HD c0 c1' Hh hfb
 go_wp2_with fail
 go_loopw [21] (fun i wr=>∃ (k:Nat) (mv:Value),k ≤ l.length - 1∧i=.int .i64 k∧PlAt w (w.heap.size+1+1) L A1 l1.length c1 A2 l2.length c2 (foldP (headP l[0]) l (k+1)) mv wr∧Blk wr (w.heap.size+1) 104 #[.int .i64 0,.int .i64 0]∧some (w.heap.size+1) ≠ mv.ownBlock) (fun i _=>l.length - (intOf i).toNat)
 case atStart=>exact ⟨0,mv1,Nat.zero_le _,rfl,P1,B51,n51⟩
 case round =>
  clear P1 B51 n51
  obtain ⟨k,mv,hk,rfl,P,B5,n5⟩:=hrel
  by_cases hlt:k < l.length - 1
  ·have hlt':k+1 < l.length:=by omega
   obtain ⟨b',off',rfl,hbB',hc'⟩:=HDR.out.at_ (i:=k) (by simp;omega)
   simp only [List.getElem_drop,List.getElem_map] at hc'
   have hidx:1+k=k+1:=by omega
   have e0:wr.cell? ⟨b',off'+k * 3,none⟩=some (.int .i64 (l[k+1]).digits):=by rw [P.hb.cell hbB'];have:=hc' 0 _ rfl;simpa only [hidx,Nat.add_zero] using this
   have e1:wr.cell? ⟨b',off'+k * 3+1,none⟩=some (.int .i64 (l[k+1]).tens):=by rw [P.hb.cell hbB'];have:=hc' 1 _ rfl;simpa only [hidx] using this
   have e2:wr.cell? ⟨b',off'+k * 3+2,none⟩=some (.bool (l[k+1]).div):=by rw [P.hb.cell hbB'];have:=hc' 2 _ rfl;simpa only [hidx] using this
   clear hc'
   obtain ⟨hok,hln⟩:=Hfold.out (k+1) (by omega) (by omega)
   have HT:=fun (W:World) (PW:PlAt w (w.heap.size+1+1) L A1 l1.length c1 A2 l2.length c2 (foldP (headP l[0]) l (k+1)) mv W)=>Lib.hid (term_c R L c1 c2 (w.heap.size+1+1) (foldP (headP l[0]) l (k+1)) mv l[k+1] W PW (by omega) hok (Hall.out (k+1) hlt') (by omega))
   have Hnx:=Lib.hid (foldP_succ (headP l[0]) l (k:=k+1) (by omega) hlt')
   have hltI:(k:Int) < ((l.length - 1:Nat):Int):=by omega
   have hwr:=P.hb.size
   have hbw:b' < wr.heap.size:=by omega
   clear hok hln
   generalize l[k+1]=tk at *
   go_wp2_with fail
   have hba:Below wr.heap.size wr (wr.alloc (.cells #[.int .i64 tk.digits,.int .i64 tk.tens,.bool tk.div] 100)):=(Below.refl _ _).alloc (Nat.le_refl _) _
   have Pa:=P.below hba
   have B5a:=B5.below hba B5.lt
   clear e0 e1 e2 P B5 hba
   generalize wr.alloc (.cells #[.int .i64 tk.digits,.int .i64 tk.tens,.bool tk.div] 100)=w2 at *
   refine Calls.mono (HT w2 Pa).out ?_;rintro e w3 ⟨rfl,mv3,P3,hS3⟩
   obtain ⟨B53,n53⟩:=hS3.blk B5a (by omega) n5
   go_wp2
   go_roundw
   case rel=>exact ⟨k+1,mv3,by omega,by go_num,by rw [Hnx.out];exact P3,B53,n53⟩
   case measure=>simp [intOf];omega
  ·have hkl:k+1=l.length:=by omega
   have hkn:k=l.length - 1:=by omega
   obtain ⟨hok,hln⟩:=Hfold.out l.length (by omega) (by omega)
   rw [hkl] at P
   have HT:=fun (W:World) (PW:PlAt w (w.heap.size+1+1) L A1 l1.length c1 A2 l2.length c2 (foldP (headP l[0]) l l.length) mv W)=>Lib.hid (toCursor_c R L c1 c2 (w.heap.size+1+1) (foldP (headP l[0]) l l.length) mv W PW (by omega) hok.1 (by omega))
   rw [← Heq.out] at HT
   have hnlt:¬ (k:Int) < ((l.length - 1:Nat):Int):=by omega
   clear hok hln hkl hkn
   go_wp2_with fail
   refine Calls.mono (HT wr P).out ?_;rintro e w3 ⟨rfl,mv3,P3,hS3⟩
   obtain ⟨B53,n53⟩:=hS3.blk B5 (by omega) n5
   clear HT P B5 hS3 n5
   generalize usualP l=q at *
   obtain ⟨A',c',rfl,hc'⟩:=P3.own.form
   generalize hnn:(q.ms.map Move.cells).length=nn at *
   have hI:w3.drew.cell? ⟨w.heap.size+1+1,3,none⟩=some (.int .i64 q.sh)∧w3.drew.cell? ⟨w.heap.size+1+1,4,none⟩=some (.int .i64 q.cu)∧w3.drew.cell? ⟨w.heap.size+1+1,5,none⟩=some (.slice A' nn c'):=⟨P3.bp.cell 3,P3.bp.cell 4,P3.bp.cell 5⟩
   have z0:w3.cell? ⟨w.heap.size+1,0,none⟩=some (.int .i64 0):=B53.cell 0
   have z1:w3.cell? ⟨w.heap.size+1,1,none⟩=some (.int .i64 0):=B53.cell 1
   have zf0:=B53.frozen 0
   have zf1:=B53.frozen 1
   have y0:w3.drew.cell? ⟨w.heap.size+1,0,none⟩=some (.int .i64 0):=z0
   have y1:w3.drew.cell? ⟨w.heap.size+1,1,none⟩=some (.int .i64 0):=z1
   have yf0:w3.drew.frozen? ⟨w.heap.size+1,0,none⟩=false:=zf0
   have yf1:w3.drew.frozen? ⟨w.heap.size+1,1,none⟩=false:=zf1
   have Bp:=(P3.bp.far (p:=⟨w.heap.size+1,0,none⟩) (by simp) (.int .i64 q.sh)).far (p:=⟨w.heap.size+1,1,none⟩) (by simp) (.int .i64 q.cu)
   have hI2:((w3.setCell ⟨w.heap.size+1,0,none⟩ (.int .i64 q.sh)).setCell ⟨w.heap.size+1,1,none⟩ (.int .i64 q.cu)).drew.cell? ⟨w.heap.size+1+1,3,none⟩=some (.int .i64 q.sh)∧((w3.setCell ⟨w.heap.size+1,0,none⟩ (.int .i64 q.sh)).setCell ⟨w.heap.size+1,1,none⟩ (.int .i64 q.cu)).drew.cell? ⟨w.heap.size+1+1,4,none⟩=some (.int .i64 q.cu)∧((w3.setCell ⟨w.heap.size+1,0,none⟩ (.int .i64 q.sh)).setCell ⟨w.heap.size+1,1,none⟩ (.int .i64 q.cu)).drew.cell? ⟨w.heap.size+1+1,5,none⟩=some (.slice A' nn c'):=⟨Bp.cell 3,Bp.cell 4,Bp.cell 5⟩
   clear Bp
   go_wp2_with fail
   go_region_held3 (fun w'=>w'.cell? ⟨w.heap.size+1+1,3,none⟩=some (.int .i64 q.sh)∧w'.cell? ⟨w.heap.size+1+1,4,none⟩=some (.int .i64 q.cu)∧w'.cell? ⟨w.heap.size+1+1,5,none⟩=some (.slice A' nn c')) (first | with_reducible exact hI | with_reducible assumption | with_reducible exact hI2) (fail)
   have hO4:Own ((w3.setCell ⟨w.heap.size+1,0,none⟩ (.int .i64 q.sh)).setCell ⟨w.heap.size+1,1,none⟩ (.int .i64 q.cu)) w.heap.size 75 4 (.slice A' nn c') (q.ms.map Move.cells):=P3.own.kept (grownBy_stores [_,_] 0 (World.grownBy.refl _ _)) (.inr (Ne.symm n53))
   have hnn':nn=q.ms.length:=by rw [← hnn,List.length_map]
   have hb3:=P3.hb
   clear hI hI2 P3 hnn
   subst hnn'
   go_wp2
   refine bodyPost_ret (v:=.tuple #[.slice A' q.ms.length c',.agg #[.int .i64 q.sh,.int .i64 q.cu]]) (by simp [results,Tryz.results60,go_sem,z0,z1]) rfl ⟨A',c',rfl,hO4,(by repeat first | with_reducible (first | exact hb3 | apply below_drewN' | apply Below.drew | refine Below.alloc ?_ ?_ _ | refine Below.setCell ?_ ?_ _) | exact hb3 | omega | (simp <;> omega) | (have:=(hb3).size;first | omega | (simp <;> omega)))⟩
end Go.Proofs.YtednjmldjbndhaaGreat
namespace Go.Proofs.YtednjmldjbndhaaGreat
def stepLN (s:Nat × Nat):Nat × Nat:=if 1000000000 ≤ s.1 * s.1 / 100000000 then (s.1 * s.1 / 100000000 / 10,2 * s.2+1) else (s.1 * s.1 / 100000000,2 * s.2)
def itLN (x:Nat) (k:Nat):Nat × Nat:=Nat.rec (x,0) (fun _ s=>stepLN s) k
def chkL (d:Nat) (k:Nat):Bool:=Nat.rec true (fun i b=>Nat.blt ((itLN ((d+i) * 100000) 16).2+1) (itLN ((d+i+1) * 100000) 16).2 && b) k
set_option maxRecDepth 100000
theorem chk0:chkL 1000 1000=true:=by decide +kernel
theorem chk1:chkL 2000 1000=true:=by decide +kernel
theorem chk2:chkL 3000 1000=true:=by decide +kernel
theorem chk3:chkL 4000 1000=true:=by decide +kernel
theorem chk4:chkL 5000 1000=true:=by decide +kernel
theorem chk5:chkL 6000 1000=true:=by decide +kernel
theorem chk6:chkL 7000 1000=true:=by decide +kernel
theorem chk7:chkL 8000 1000=true:=by decide +kernel
theorem chk8:chkL 9000 999=true:=by decide +kernel
theorem chk_get {d:Nat}:∀ {k:Nat},chkL d k=true→∀ i,i < k→(itLN ((d+i) * 100000) 16).2+2 ≤ (itLN ((d+i+1) * 100000) 16).2
 | 0,_,i,hi=>by omega
 | k+1,h,i,hi=>by
  have h':(Nat.blt ((itLN ((d+k) * 100000) 16).2+1) (itLN ((d+k+1) * 100000) 16).2 && chkL d k)=true:=h
  simp only [Bool.and_eq_true] at h'
  rcases Nat.lt_or_ge i k with h1 | h1
  ·exact chk_get h'.2 i h1
  ·obtain rfl:i=k:=by omega
   have:=Nat.blt_eq.mp h'.1
   omega
theorem bits16 {d:Nat} (h:1000 ≤ d) (h':d ≤ 9998):(itLN (d * 100000) 16).2+2 ≤ (itLN ((d+1) * 100000) 16).2:=by
 have key:∀ b k,chkL b k=true→b ≤ d→d < b+k→(itLN (d * 100000) 16).2+2 ≤ (itLN ((d+1) * 100000) 16).2:=fun b k hc h1 h2=>by
  have:=chk_get hc (d - b) (by omega)
  rwa [show b+(d - b)=d from by omega] at this
 rcases Nat.lt_or_ge d 2000 with h0 | h0
 ·exact key _ _ chk0 h (by omega)
 rcases Nat.lt_or_ge d 3000 with h1 | h1
 ·exact key _ _ chk1 h0 (by omega)
 rcases Nat.lt_or_ge d 4000 with h2 | h2
 ·exact key _ _ chk2 h1 (by omega)
 rcases Nat.lt_or_ge d 5000 with h3 | h3
 ·exact key _ _ chk3 h2 (by omega)
 rcases Nat.lt_or_ge d 6000 with h4 | h4
 ·exact key _ _ chk4 h3 (by omega)
 rcases Nat.lt_or_ge d 7000 with h5 | h5
 ·exact key _ _ chk5 h4 (by omega)
 rcases Nat.lt_or_ge d 8000 with h6 | h6
 ·exact key _ _ chk6 h5 (by omega)
 rcases Nat.lt_or_ge d 9000 with h7 | h7
 ·exact key _ _ chk7 h6 (by omega)
 ·exact key _ _ chk8 h7 (by omega)
theorem itL_cast (x:Nat):∀ k,itL (x:Int) k=(((itLN x k).1:Int),((itLN x k).2:Int))
 | 0=>rfl
 | k+1=>by
  have h1:itLN x (k+1)=stepLN (itLN x k):=rfl
  rw [itL,itL_cast x k,h1]
  generalize itLN x k=s
  obtain ⟨y,n⟩:=s
  unfold stepL stepLN
  simp only
  have e:((y:Int) * y / 100000000)=((y * y / 100000000:Nat):Int):=by simp
  rw [e]
  by_cases hb:1000000000 ≤ y * y / 100000000
  ·rw [if_pos hb,if_pos (by omega)]
   simp
  ·rw [if_neg hb,if_neg (by omega)]
   simp
theorem stepL_two (s:Int × Int):(stepL s).2=2 * s.2 ∨ (stepL s).2=2 * s.2+1:=by
 unfold stepL;split <;> simp
theorem itL_four' (x:Int) (k:Nat):16 * (itL x k).2 ≤ (itL x (k+4)).2∧(itL x (k+4)).2 ≤ 16 * (itL x k).2+15:=by
 have h1:=stepL_two (itL x k)
 have h2:=stepL_two (itL x (k+1))
 have h3:=stepL_two (itL x (k+2))
 have h4:=stepL_two (itL x (k+3))
 have e1:itL x (k+1)=stepL (itL x k):=rfl
 have e2:itL x (k+2)=stepL (itL x (k+1)):=rfl
 have e3:itL x (k+3)=stepL (itL x (k+2)):=rfl
 have e4:itL x (k+4)=stepL (itL x (k+3)):=rfl
 rw [← e1] at h1
 rw [← e2] at h2
 rw [← e3] at h3
 rw [← e4] at h4
 omega
theorem itL_20 (x:Int):16 * (itL x 16).2 ≤ (itL x 20).2∧(itL x 20).2 ≤ 16 * (itL x 16).2+15:=itL_four' x 16
theorem logLow_up {d:Int} (h:1000 ≤ d∧d ≤ 9998):logLow (d * 100000)+17 ≤ logLow ((d+1) * 100000):=by
 obtain ⟨n,rfl⟩:=Int.eq_ofNat_of_zero_le (show 0 ≤ d by omega)
 have hb:=bits16 (d:=n) (by omega) (by omega)
 have h1:=itL_20 ((n:Int) * 100000)
 have h2:=itL_20 (((n:Int)+1) * 100000)
 have e1:((n:Int) * 100000)=((n * 100000:Nat):Int):=by simp
 have e2:(((n:Int)+1) * 100000)=(((n+1) * 100000:Nat):Int):=by simp
 rw [e1] at h1 ⊢
 rw [e2] at h2 ⊢
 unfold logLow
 rw [itL_cast _ 16] at h1 h2
 simp only at h1 h2
 omega
def leB (s s':Int × Int):Prop:=s.2 < s'.2 ∨ (s.2=s'.2∧s.1 ≤ s'.1)
theorem stepH_mono {s s':Int × Int} (h0:0 ≤ s.1) (h:leB s s'):leB (stepH s) (stepH s'):=by
 obtain ⟨y,n⟩:=s
 obtain ⟨z,m⟩:=s'
 unfold leB at h ⊢
 simp only at h h0
 unfold stepH
 simp only
 rcases h with h | ⟨rfl,h⟩
 ·left
  split <;> split <;> (simp only;omega)
 ·have hq:y * y ≤ z * z:=Int.mul_le_mul h h h0 (by omega)
  unfold cdiv
  generalize y * y=a at *
  generalize z * z=b at *
  by_cases h1:1000000000 ≤ -(-a / 100000000) <;> by_cases h2:1000000000 ≤ -(-b / 100000000)
  ·rw [if_pos h1,if_pos h2];exact .inr ⟨rfl,by simp only;omega⟩
  ·exfalso;omega
  ·rw [if_neg h1,if_pos h2];exact .inl (by simp only;omega)
  ·rw [if_neg h1,if_neg h2];exact .inr ⟨rfl,by simp only;omega⟩
theorem itH_mono {x x':Int} (hx:100000000 ≤ x∧x ≤ 1000000000) (h:x ≤ x'):∀ k,leB (itH x k) (itH x' k)
 | 0=>.inr ⟨rfl,h⟩
 | k+1=>stepH_mono (by have:=(itH_bd hx k).1;omega) (itH_mono hx h k)
theorem logHigh_mono {x x':Int} (hx:100000000 ≤ x∧x ≤ 1000000000) (h:x ≤ x'):logHigh x ≤ logHigh x':=by
 have:=itH_mono hx h 20
 unfold leB at this
 unfold logHigh
 omega
end Go.Proofs.YtednjmldjbndhaaGreat
namespace Go.Proofs.YtednjmldjbndhaaGreat
set_option maxRecDepth 100000
theorem logHigh_one:logHigh 100000000=1:=by decide +kernel
def numD (n:Int):Int:=1000+n % 9000
def numT (n:Int):Int:=n / 9000
def hiN (n:Int):Int:=figHi (numD n) (numT n)
def loN (n:Int):Int:=figLo (numD n) (numT n)
theorem numD_bd (n:Int):1000 ≤ numD n∧numD n ≤ 9999:=by unfold numD;omega
theorem hiN_mk {t i:Int} (h:0 ≤ i∧i < 9000):hiN (9000 * t+i)=figHi (1000+i) t:=by
 unfold hiN numD numT
 rw [show (9000 * t+i) % 9000=i from by omega,show (9000 * t+i) / 9000=t from by omega]
theorem loN_mk {t i:Int} (h:0 ≤ i∧i < 9000):loN (9000 * t+i)=figLo (1000+i) t:=by
 unfold loN numD numT
 rw [show (9000 * t+i) % 9000=i from by omega,show (9000 * t+i) / 9000=t from by omega]
theorem num_split (n:Int):∃ t i:Int,n=9000 * t+i∧0 ≤ i∧i < 9000:=⟨n / 9000,n % 9000,by omega,by omega,by omega⟩
theorem hiN_succ (n:Int):hiN n ≤ hiN (n+1):=by
 obtain ⟨t,i,rfl,h0,h1⟩:=num_split n
 rw [hiN_mk ⟨h0,h1⟩]
 by_cases h:i < 8999
 ·rw [show 9000 * t+i+1=9000 * t+(i+1) from by omega,hiN_mk ⟨by omega,by omega⟩]
  have:=logHigh_mono (x:=(1000+i) * 100000) (x':=(1000+(i+1)) * 100000) (by omega) (by omega)
  unfold figHi
  omega
 ·obtain rfl:i=8999:=by omega
  rw [show 9000 * t+8999+1=9000 * (t+1)+0 from by omega,hiN_mk ⟨by omega,by omega⟩]
  have h2:=logHigh_bd (x:=(1000+8999) * 100000) (by omega)
  have h3:=logHigh_bd (x:=(1000+0) * 100000) (by omega)
  unfold figHi
  omega
theorem loN_succ (n:Int):loN n ≤ loN (n+1):=by
 obtain ⟨t,i,rfl,h0,h1⟩:=num_split n
 rw [loN_mk ⟨h0,h1⟩]
 by_cases h:i < 8999
 ·rw [show 9000 * t+i+1=9000 * t+(i+1) from by omega,loN_mk ⟨by omega,by omega⟩]
  have:=logLow_up (d:=1000+i) (by omega)
  rw [show (1000+(i+1))=1000+i+1 from by omega]
  unfold figLo
  omega
 ·obtain rfl:i=8999:=by omega
  rw [show 9000 * t+8999+1=9000 * (t+1)+0 from by omega,loN_mk ⟨by omega,by omega⟩]
  have h2:=logLow_bd (x:=(1000+8999) * 100000) (by omega)
  have h3:=logLow_bd (x:=(1000+0) * 100000) (by omega)
  unfold figLo
  omega
theorem mono_of {f:Int→Int} (h:∀ n,f n ≤ f (n+1)) {a b:Int} (hab:a ≤ b):f a ≤ f b:=by
 obtain ⟨k,rfl⟩:∃ k:Nat,b=a+k:=⟨(b - a).toNat,by omega⟩
 clear hab
 induction k with
 | zero=>simp
 | succ k ih=>exact Int.le_trans ih (by have:=h (a+k);rwa [show a+((k+1:Nat):Int)=a+k+1 from by omega])
/-! ### The figure below -/
def belP (u:Int) (i:Nat):Bool:=decide (u < figHi (1000+i) ((u - 1) / 1048576))
def belI (u:Int):Nat:=(List.range 9000).findIdx (belP u)
theorem belI_le (u:Int):belI u ≤ 9000:=by
 have:=List.findIdx_le_length (xs:=List.range 9000) (p:=belP u)
 simpa [belI] using this
theorem belI_lo {u:Int} {i:Nat} (h:i < belI u):belP u i=false:=by
 have hl:=belI_le u
 have:=List.not_of_lt_findIdx (p:=belP u) (xs:=List.range 9000) h
 simpa using this
theorem belI_at {u:Int} (h:belI u < 9000):belP u (belI u)=true:=by
 have:=List.findIdx_getElem (p:=belP u) (xs:=List.range 9000) (w:=by simpa [belI] using h)
 simpa [belI] using this
theorem belI_hi {u:Int} {i:Nat} (h:belI u ≤ i) (hi:i < 9000):belP u i=true:=by
 have h0:=belI_at (u:=u) (by omega)
 unfold belP at h0 ⊢
 simp only [decide_eq_true_eq] at h0 ⊢
 have h1:=mono_of hiN_succ (a:=9000 * ((u - 1) / 1048576)+(belI u:Nat)) (b:=9000 * ((u - 1) / 1048576)+(i:Nat)) (by omega)
 rw [hiN_mk ⟨by omega,by omega⟩,hiN_mk ⟨by omega,by omega⟩] at h1
 omega
theorem belI_pos (u:Int):1 ≤ belI u:=by
 rcases Nat.eq_zero_or_pos (belI u) with h | h
 ·have h0:=belI_at (u:=u) (by omega)
  rw [h] at h0
  unfold belP figHi at h0
  simp only [decide_eq_true_eq] at h0
  rw [show ((1000:Int)+((0:Nat):Int)) * 100000=100000000 from by omega,logHigh_one] at h0
  omega
 ·exact h
def belN (u:Int):Int:=9000 * ((u - 1) / 1048576)+belI u
theorem belN_hi {u n:Int} (h:belN u ≤ n):u < hiN n:=by
 refine Int.lt_of_lt_of_le ?_ (mono_of hiN_succ h)
 unfold belN
 have hle:=belI_le u
 by_cases h9:belI u < 9000
 ·have h0:=belI_at h9
  unfold belP at h0
  rw [hiN_mk ⟨by omega,by omega⟩]
  simpa using h0
 ·rw [show 9000 * ((u - 1) / 1048576)+((belI u:Nat):Int)=9000 * ((u - 1) / 1048576+1)+0 from by omega,hiN_mk ⟨by omega,by omega⟩]
  unfold figHi
  have h3:=logHigh_bd (x:=(1000+0) * 100000) (by omega)
  omega
theorem belN_lo {u n:Int} (h:n < belN u):hiN n ≤ u:=by
 refine Int.le_trans (mono_of hiN_succ (b:=belN u - 1) (by omega)) ?_
 unfold belN
 have h1:=belI_pos u
 have hle:=belI_le u
 have h0:=belI_lo (u:=u) (i:=belI u - 1) (by omega)
 unfold belP at h0
 simp only [decide_eq_false_iff_not] at h0
 rw [show 9000 * ((u - 1) / 1048576)+((belI u:Nat):Int) - 1=9000 * ((u - 1) / 1048576)+((belI u - 1:Nat):Int) from by omega,hiN_mk ⟨by omega,by omega⟩]
 omega
theorem belN_D (u:Int):numD (belN u - 1)=999+belI u∧numT (belN u - 1)=(u - 1) / 1048576:=by
 have h1:=belI_pos u
 have hle:=belI_le u
 unfold numD numT belN
 generalize (u - 1) / 1048576=t
 omega
/-! ### The figure above -/
def aboP (u:Int) (i:Nat):Bool:=decide (u ≤ figLo (1000+i) (u / 1048576))
def aboI (u:Int):Nat:=(List.range 9000).findIdx (aboP u)
theorem aboI_le (u:Int):aboI u ≤ 9000:=by
 have:=List.findIdx_le_length (xs:=List.range 9000) (p:=aboP u)
 simpa [aboI] using this
theorem aboI_lo {u:Int} {i:Nat} (h:i < aboI u):aboP u i=false:=by
 have hl:=aboI_le u
 have:=List.not_of_lt_findIdx (p:=aboP u) (xs:=List.range 9000) h
 simpa using this
theorem aboI_at {u:Int} (h:aboI u < 9000):aboP u (aboI u)=true:=by
 have:=List.findIdx_getElem (p:=aboP u) (xs:=List.range 9000) (w:=by simpa [aboI] using h)
 simpa [aboI] using this
theorem aboI_hi {u:Int} {i:Nat} (h:aboI u ≤ i) (hi:i < 9000):aboP u i=true:=by
 have h0:=aboI_at (u:=u) (by omega)
 unfold aboP at h0 ⊢
 simp only [decide_eq_true_eq] at h0 ⊢
 have h1:=mono_of loN_succ (a:=9000 * (u / 1048576)+(aboI u:Nat)) (b:=9000 * (u / 1048576)+(i:Nat)) (by omega)
 rw [loN_mk ⟨by omega,by omega⟩,loN_mk ⟨by omega,by omega⟩] at h1
 omega
def aboN (u:Int):Int:=9000 * (u / 1048576)+aboI u
theorem aboN_hi {u n:Int} (h:aboN u ≤ n):u ≤ loN n:=by
 refine Int.le_trans ?_ (mono_of loN_succ h)
 unfold aboN
 have hle:=aboI_le u
 by_cases h9:aboI u < 9000
 ·have h0:=aboI_at h9
  unfold aboP at h0
  rw [loN_mk ⟨by omega,by omega⟩]
  simpa using h0
 ·rw [show 9000 * (u / 1048576)+((aboI u:Nat):Int)=9000 * (u / 1048576+1)+0 from by omega,loN_mk ⟨by omega,by omega⟩]
  unfold figLo
  have h3:=logLow_bd (x:=(1000+0) * 100000) (by omega)
  omega
theorem aboN_lo {u n:Int} (h:n < aboN u):loN n < u:=by
 refine Int.lt_of_le_of_lt (mono_of loN_succ (b:=aboN u - 1) (by omega)) ?_
 unfold aboN
 have hle:=aboI_le u
 rcases Nat.eq_zero_or_pos (aboI u) with h1 | h1
 ·rw [h1,show 9000 * (u / 1048576)+((0:Nat):Int) - 1=9000 * (u / 1048576 - 1)+8999 from by omega,loN_mk ⟨by omega,by omega⟩]
  unfold figLo
  have h3:=logLow_bd (x:=(1000+8999) * 100000) (by omega)
  omega
 ·have h0:=aboI_lo (u:=u) (i:=aboI u - 1) (by omega)
  unfold aboP at h0
  simp only [decide_eq_false_iff_not] at h0
  rw [show 9000 * (u / 1048576)+((aboI u:Nat):Int) - 1=9000 * (u / 1048576)+((aboI u - 1:Nat):Int) from by omega,loN_mk ⟨by omega,by omega⟩]
  omega
theorem aboN_D (u:Int):(aboI u=9000→numD (aboN u)=1000∧numT (aboN u)=u / 1048576+1)∧(aboI u < 9000→numD (aboN u)=1000+aboI u∧numT (aboN u)=u / 1048576):=by
 unfold numD numT aboN
 generalize u / 1048576=t
 omega
/-! ### The span -/
def unitsB (u:Int):Bool:=inB u (-31457280) 31457280
theorem unitsB_bd {u:Int} (h:unitsB u=true):-31457280 ≤ u∧u ≤ 31457280:=inB_true.1 h
theorem belN_bd {u:Int} (h:unitsB u=true):-270000 ≤ belN u∧belN u ≤ 270000:=by
 have h0:=unitsB_bd h
 have h1:=belI_pos u
 have h2:=belI_le u
 unfold belN
 generalize ht:(u - 1) / 1048576=t
 by_cases h3:t=-31
 ·-- u = -30 decades: the first one is 1000 at -30
  have hu:u=-31457280:=by omega
  have h4:¬ belI u < 9000:=by
   intro h4
   have h0:=belI_at h4
   unfold belP figHi at h0
   simp only [decide_eq_true_eq] at h0
   have:=logHigh_bd (x:=(1000+(belI u:Int)) * 100000) (by omega)
   rw [ht] at h0
   omega
  omega
 ·omega
end Go.Proofs.YtednjmldjbndhaaGreat
namespace Go.Proofs.YtednjmldjbndhaaGreat
open Go.RowKit
def PredI (g:FuncId) (lb:Array Value) (n:Nat) (p:Nat→Bool) (w:World):Prop :=
 ∀ (i:Nat) (W:World),i < n→Below w.heap.size w W→Calls Tryz.prog g (#[.int .i64 i] ++ lb) W fun e w'=>e=.returned (.bool (p i))∧Below W.heap.size W w'
theorem search_c (g:FuncId) (lb:Array Value) (n r:Nat) (p:Nat→Bool) (w:World) (hn:n ≤ 1000000000)
  (eg:∀ args w,(callFunc g args).run Tryz.prog w=.ok (.enter g args) w) (hp:PredI g lb n p w) (hr:r ≤ n) (hlo:∀ i,i < r→p i=false) (hhi:∀ i,r ≤ i→i < n→p i=true) :
  Calls Tryz.prog 147 #[.int .i64 n,.func (.func g) #[] lb] w fun e w'=>e=.returned (.int .i64 r)∧Below w.heap.size w w':=by
 have Hlo:=Lib.hid hlo;clear hlo
 have Hhi:=Lib.hid hhi;clear hhi
 have HP:=Lib.hid hp;clear hp
 go_enter Tryz.func147,Tryz.ntmps147
 go_wp2_with fail
 go_loopw [5,6] (fun i j wr=>∃ a b:Nat,a ≤ r∧r ≤ b∧b ≤ n∧i=.int .i64 a∧j=.int .i64 b∧Below w.heap.size w wr) (fun i j _=>(intOf j).toNat - (intOf i).toNat)
 case atStart=>exact ⟨0,n,Nat.zero_le _,hr,Nat.le_refl _,rfl,rfl,Below.refl _ _⟩
 case round =>
  obtain ⟨a,b,ha,hrb,hbn,rfl,rfl,hb⟩:=hrel
  by_cases hlt:a < b
  ·have hlt':(a:Int) < b:=by omega
   obtain ⟨h,hh⟩:∃ h:Nat,h=(a+b) / 2:=⟨_,rfl⟩
   have hcast:((a:Int)+b) / 2=(h:Int):=by omega
   have h1:a ≤ h:=by omega
   have h2:h < b:=by omega
   have Hh:=Lib.hid hh;clear hh
   have Hcast:=Lib.hid hcast;clear hcast
   have hcall:=HP.out h wr (by omega) hb
   by_cases hrh:r ≤ h
   ·rw [Hhi.out h hrh (by omega)] at hcall
    have H:=Lib.hid hcall;clear hcall
    go_wp2_with fail
    rw [Hcast.out]
    refine H.out.mono ?_;rintro e w1 ⟨rfl,hb1⟩
    go_wp2
    go_roundw
    case rel=>exact ⟨a,h,ha,hrh,by omega,rfl,rfl,hb.trans (hb1.mono hb.size)⟩
    case measure=>simp [intOf];omega
   ·rw [Hlo.out h (by omega)] at hcall
    have H:=Lib.hid hcall;clear hcall
    go_wp2_with fail
    rw [Hcast.out]
    refine H.out.mono ?_;rintro e w1 ⟨rfl,hb1⟩
    go_wp2
    go_roundw
    case rel=>exact ⟨h+1,b,by omega,hrb,hbn,by go_num,rfl,hb.trans (hb1.mono hb.size)⟩
    case measure=>simp [intOf];omega
  ·have:a=b:=by omega
   subst this
   have:a=r:=by omega
   subst this
   go_wp2
   go_ret
   exact ⟨rfl,hb⟩
end Go.Proofs.YtednjmldjbndhaaGreat
