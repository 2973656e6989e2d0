/- The reference's draws of charts. Condition: the code has at most 4096 bytes. -/
import Derived.Test.YtednjmldjbndhaaGreatDoorKMr3
import Derived.Test.YtednjmldjbndhaaGreatDoorKMr31
set_option linter.unusedSimpArgs false
set_option linter.unusedVariables false
set_option maxRecDepth 100000
set_option maxHeartbeats 8000000
namespace Go.Proofs.YtednjmldjbndhaaGreatDoor
open Go.RowKit
theorem Src.drew {w:World} {A:Option Addr} {n c g:Nat} (h:Src w A n c g):Src w.drew A n c g:=h.keep fun _ _=>rfl
structure Ds (A:Option Addr) (n c g:Nat) (w0 w:World):Prop where
 s:Src w A n c g
 g:w0.grownBy w (some g)
section
variable {A : Option Addr} {n c g : Nat} {w0 w w2 : World}
theorem Ds.init (h:Src w A n c g):Ds A n c g w w:=⟨h,World.grownBy.refl _ _⟩
theorem Ds.alloc (h:Ds A n c g w0 w) (o:Obj):Ds A n c g w0 (w.alloc o):=⟨h.s.alloc o,h.g.trans (grown_alloc o _)⟩
theorem Ds.to (h:Ds A n c g w0 w) (s:Src w2 A n c g) (hg:w.grownBy w2 (some g)):Ds A n c g w0 w2:=⟨s,h.g.trans hg⟩
theorem Ds.drew (h:Ds A n c g w0 w):Ds A n c g w0 w.drew:=⟨h.s.drew,grown_drewN h.g 1⟩
theorem Ds.below (h:Ds A n c g w0 w) (hb:Below w.heap.size w w2):Ds A n c g w0 w2:=⟨h.s.below hb,h.g.trans ⟨hb.os,hb.tape,hb.output,hb.size,fun k hk _=>hb.block k hk⟩⟩
theorem Ds.new (h:Ds A n c g w0 w) {b:Nat} (hg:w.grownBy w2 (some b)) (hb:g < b) (hb2:w0.heap.size ≤ b):Ds A n c g w0 w2 :=
 ⟨h.s.grown hg (fun r e=>by simp only [Option.some.injEq] at e;omega),⟨hg.os.trans h.g.os,hg.tape.trans h.g.tape,hg.output.trans h.g.output,Nat.le_trans h.g.size hg.size,fun k hk hne=>(hg.block k (Nat.lt_of_lt_of_le hk h.g.size) (fun e=>by simp only [Option.some.injEq] at e;omega)).trans (h.g.block k hk hne)⟩⟩
theorem Ds.set (h:Ds A n c g w0 w) {b j:Nat} {u:Value} (hg:g < b) (hb:w0.heap.size ≤ b):Ds A n c g w0 (w.setCell ⟨b,j,none⟩ u):=⟨h.s.far (by simpa using hg),grown_far h.g (by simpa using hb)⟩
theorem Ds.lt (h:Ds A n c g w0 w):g < w.heap.size:=h.s.lt
theorem Ds.size (h:Ds A n c g w0 w):w0.heap.size ≤ w.heap.size:=h.g.size
end
def DIB (lo hi:Int) (A:Option Addr) (n c g:Nat) (w:World) (e:Ending) (w':World):Prop:=∃ r:Int,e=.returned (.int .i64 r)∧(lo ≤ r∧r ≤ hi)∧Src w' A n c g∧w.grownBy w' (some g)
def DFV (A:Option Addr) (n c g:Nat) (w:World) (e:Ending) (w':World):Prop:=∃ a b:Int,e=.returned (.agg #[.int .i64 a,.int .i64 b])∧(1000 ≤ a∧a ≤ 9999)∧(-30 ≤ b∧b ≤ 30)∧Src w' A n c g∧w.grownBy w' (some g)
theorem pickB_c (lo hi:Int) (A:Option Addr) (n c g b:Nat) (cs:Array Value) (len cap:Nat) (w:World) (hS:Src w A n c g) (hB:Blk w b 2 cs) (hb:b ≠ g) (hc:∀ v ∈ cs.toList,∃ m:Int,v=.int .i64 m∧lo ≤ m∧m ≤ hi) (hlen:cs.size=len) (h0:0 < len) (h1:len ≤ 1000) :
  Calls Tryz.prog 64 #[.pointer (some ⟨g,0,none⟩),.slice (some ⟨b,0,none⟩) len cap] w (DIB lo hi A n c g w):=by
 have hc':∀ k:Nat,k < len→∃ m:Int,cs[k]?=some (.int .i64 m)∧lo ≤ m∧m ≤ hi:=fun k hk=>by
  obtain ⟨m,hm,hb⟩:=hc cs[k] (by simp)
  exact ⟨m,by rw [Array.getElem?_eq_getElem (by omega),hm],hb⟩
 have hN:=Lib.hid (l01Next_c A n c g (len:Int) w hS)
 unfold DIB
 clear hc hS
 go_enter Tryz.func64,Tryz.ntmps64
 go_wp2_with (go_at_call 44;refine hN.out.mono ?_;rintro e w1 ⟨r,rfl,⟨hr1,hr2⟩,hr3,hS1,hg1⟩;obtain ⟨k,rfl⟩:=Int.eq_ofNat_of_zero_le hr1;obtain ⟨m,hm,hm1,hm2⟩:=hc' k (by omega);have c0:w1.cell? ⟨b,k,none⟩=some (.int .i64 m):=((hB.src hg1 hb).cell k).trans hm)
 go_ret
 exact ⟨m,rfl,⟨hm1,hm2⟩,hS1,hg1⟩
theorem pickB_n (lo hi:Int) (A:Option Addr) (n c g:Nat) (cs:Array Value) (len cap:Nat) (w:World) (hS:Src w A n c g) (hc:∀ v ∈ cs.toList,∃ m:Int,v=.int .i64 m∧lo ≤ m∧m ≤ hi) (hlen:cs.size=len) (h0:0 < len) (h1:len ≤ 1000) :
  Calls Tryz.prog 64 #[.pointer (some ⟨g,0,none⟩),.slice (some ⟨w.heap.size,0,none⟩) len cap] (w.alloc (.cells cs 2)) (DIB lo hi A n c g w) :=
 (pickB_c lo hi A n c g w.heap.size cs len cap _ (hS.alloc _) (Blk.new _ _ _) (by have:=hS.lt;omega) hc hlen h0 h1).mono fun _ _ ⟨r,h1,h2,h3,h4⟩=>⟨r,h1,h2,h3,(grown_alloc _ _).trans h4⟩
theorem l02ValidV_c (A:Option Addr) (n c g:Nat) (w:World) (hS:Src w A n c g):Calls Tryz.prog 81 #[.pointer (some ⟨g,0,none⟩)] w (DFV A n c g w):=by
 have hG:w.grownBy (w.alloc (.cells #[.int .i64 0,.int .i64 0] 26)) (some g):=grown_alloc _ _
 have hlt:=hS.lt
 have Br:=Blk.new w 26 #[.int .i64 0,.int .i64 0]
 have hS:=hS.alloc (.cells #[.int .i64 0,.int .i64 0] 26)
 unfold DFV
 go_enter Tryz.func81,Tryz.ntmps81
 go_wp2_with (first | (go_at_call 44;refine (l01Next_c A n c g _ _ (by with_reducible exact hS)).mono ?_;rintro e w1 ⟨r,rfl,⟨hr1,hr2⟩,hr3,hS,hg⟩;have hG:=hG.trans hg;have Br:=Br.src hg (by omega);clear hg;have c0:w1.cell? ⟨w.heap.size,0,none⟩=some (.int .i64 0):=Br.cell 0;have c1:w1.cell? ⟨w.heap.size,1,none⟩=some (.int .i64 0):=Br.cell 1;have f0:=Br.frozen 0;have f1:=Br.frozen 1;have z:=Br.lt) | (go_at_call 64;refine (pickB_n 1000 9999 A n c g _ _ _ _ hS (by simp;omega) (by rfl) (by decide) (by decide)).mono ?_;rintro e w1 ⟨p,rfl,⟨hp1,hp2⟩,hS,hg⟩;have hG:=hG.trans hg;have Br:=Br.src hg (by omega);clear hg))
 refine bodyPost_ret (v:=.agg #[.int .i64 p,.int .i64 (r - 3)]) (by simp [results,Tryz.results81,go_sem,c0,c1]) rfl ⟨p,r - 3,rfl,by omega,by omega,(hS.far (by simp only;omega)).far (by simp only;omega),grown_far (grown_far hG (by simp)) (by simp)⟩
def NumIn (x:Value) (lo hi:Int):Prop:=∃ r:Int,x=.int .i64 r∧lo ≤ r∧r ≤ hi
def CDV (A:Option Addr) (n c g:Nat) (w:World) (e:Ending) (w':World):Prop:=∃ (fd ft p q wd lf rt:Int) (b:Nat),e=.returned (.agg #[.int .i64 fd,.int .i64 ft,.string ⟨#[117,118]⟩,.slice (some ⟨b,0,none⟩) 2 2,.int .i64 wd,.int .i64 lf,.int .i64 rt])∧w.heap.size ≤ b∧Blk w' b 2 #[.int .i64 p,.int .i64 q] ∧
 (-6 ≤ p∧p ≤ 6)∧(-6 ≤ q∧q ≤ 6)∧(100 ≤ lf∧lf ≤ 20000)∧(100 ≤ rt∧rt ≤ 20000)∧Src w' A n c g∧w.grownBy w' (some g)
structure ChV (A:Option Addr) (n c g:Nat) (w0:World) (b2 b3 b4:Nat) (X P F:Array Value) (b16 b17 b18 b20 b21 b22 b24 b25 b26:Bool) (v16 v17 v18 v20 v21 v22 v24 v25 v26:Value) (v:World):Prop where
 d:Ds A n c g w0 v
 x:Blk v b2 31 X
 p:Blk v b3 2 P
 f:Blk v b4 29 F
 ne:b2 ≠ g∧b3 ≠ g∧b4 ≠ g
 q16:b16=true→NumIn v16 (0) (149)
 q17:b17=true→NumIn v17 (0) (14900)
 q18:b18=true→NumIn v18 (10000) (24900)
 q20:b20=true→NumIn v20 (0) (59)
 q21:b21=true→NumIn v21 (0) (5900)
 q22:b22=true→NumIn v22 (1000) (6900)
 q24:b24=true→NumIn v24 (0) (59)
 q25:b25=true→NumIn v25 (0) (5900)
 q26:b26=true→NumIn v26 (1000) (6900)
section
variable {A : Option Addr} {n c g : Nat} {w0 : World} {b2 b3 b4 : Nat} {X P F : Array Value} {b16 b17 b18 b20 b21 b22 b24 b25 b26 : Bool} {v16 v17 v18 v20 v21 v22 v24 v25 v26 : Value} {v v' : World}
theorem ChV.dr (h:ChV A n c g w0 b2 b3 b4 X P F b16 b17 b18 b20 b21 b22 b24 b25 b26 v16 v17 v18 v20 v21 v22 v24 v25 v26 v) (hS:Src v' A n c g) (hg:v.grownBy v' (some g)):ChV A n c g w0 b2 b3 b4 X P F b16 b17 b18 b20 b21 b22 b24 b25 b26 v16 v17 v18 v20 v21 v22 v24 v25 v26 v' :=
 ⟨h.d.to hS hg,h.x.src hg h.ne.1,h.p.src hg h.ne.2.1,h.f.src hg h.ne.2.2,h.ne,h.q16,h.q17,h.q18,h.q20,h.q21,h.q22,h.q24,h.q25,h.q26⟩
theorem ChV.drew (h:ChV A n c g w0 b2 b3 b4 X P F b16 b17 b18 b20 b21 b22 b24 b25 b26 v16 v17 v18 v20 v21 v22 v24 v25 v26 v):ChV A n c g w0 b2 b3 b4 X P F b16 b17 b18 b20 b21 b22 b24 b25 b26 v16 v17 v18 v20 v21 v22 v24 v25 v26 v.drew:=⟨h.d.drew,h.x.drewN 1,h.p.drewN 1,h.f.drewN 1,h.ne,h.q16,h.q17,h.q18,h.q20,h.q21,h.q22,h.q24,h.q25,h.q26⟩
end
theorem l23Valid_c (A:Option Addr) (n c g:Nat) (w:World) (hS:Src w A n c g):Calls Tryz.prog 80 #[.pointer (some ⟨g,0,none⟩)] w (CDV A n c g w):=by
 have hlt:=hS.lt
 have D:=(Ds.init hS).alloc (.cells #[.int .i64 0,.int .i64 0,.string ⟨#[]⟩,.slice none 0 0,.int .i64 0,.int .i64 0,.int .i64 0] 31)
 have Br:=Blk.new w 31 #[.int .i64 0,.int .i64 0,.string ⟨#[]⟩,.slice none 0 0,.int .i64 0,.int .i64 0,.int .i64 0]
 clear hS
 unfold CDV
 go_enter Tryz.func80,Tryz.ntmps80
 go_wp2_with fail
 refine (l02ValidV_c A n c g _ D.s).mono ?_;rintro e w1 ⟨fd,ft,rfl,hfd,hft,hS,hg⟩
 replace D:=D.to hS hg
 replace Br:=Br.src hg (by omega)
 clear hS hg
 go_wp2_with (go_at_call 64;refine (pickB_n (-6) 6 A n c g _ _ _ _ D.s (by simp) (by rfl) (by decide) (by decide)).mono ?_;rintro e w2 ⟨p,rfl,hp,hS,hg⟩;refine Hid.out ?_)
 refine Lib.hid ?_
 replace D:=D.to hS hg
 replace Br:=Br.src hg (by omega)
 clear hS hg
 go_wp2_with (go_at_call 64;refine (pickB_n (-6) 6 A n c g _ _ _ _ D.s (by simp) (by rfl) (by decide) (by decide)).mono ?_;rintro e w3 ⟨q,rfl,hq,hS,hg⟩;refine Hid.out ?_)
 refine Lib.hid ?_
 have hw3:w.heap.size < w3.heap.size∧g < w3.heap.size:=⟨(Br.src hg (by omega)).lt,(D.to hS hg).s.lt⟩
 replace D:=(D.to hS hg).alloc (.cells #[.int .i64 p,.int .i64 q] 2)
 replace Br:=(Br.src hg (by omega)).alloc (.cells #[.int .i64 p,.int .i64 q] 2)
 clear hS hg
 have Bp:=Blk.new w3 2 #[.int .i64 p,.int .i64 q]
 have Bf:=Blk.new' (w3.alloc (.cells #[.int .i64 p,.int .i64 q] 2)) 29 #[.int .i64 fd,.int .i64 ft,.string ⟨#[117,118]⟩,.slice (some ⟨w3.heap.size,0,none⟩) 2 2] (g:=w3.heap.size+1) (by simp)
 replace D:=D.alloc (.cells #[.int .i64 fd,.int .i64 ft,.string ⟨#[117,118]⟩,.slice (some ⟨w3.heap.size,0,none⟩) 2 2] 29)
 replace Br:=Br.alloc (.cells #[.int .i64 fd,.int .i64 ft,.string ⟨#[117,118]⟩,.slice (some ⟨w3.heap.size,0,none⟩) 2 2] 29)
 replace Bp:=Bp.alloc (.cells #[.int .i64 fd,.int .i64 ft,.string ⟨#[117,118]⟩,.slice (some ⟨w3.heap.size,0,none⟩) 2 2] 29)
 go_wp2_with fail
 generalize (w3.alloc (.cells #[.int .i64 p,.int .i64 q] 2)).alloc (.cells #[.int .i64 fd,.int .i64 ft,.string ⟨#[117,118]⟩,.slice (some ⟨w3.heap.size,0,none⟩) 2 2] 29)=W at *
 generalize hb4:w3.heap.size+1=b4 at *
 generalize hb3:w3.heap.size=b3 at *
 have hM0:ChV A n c g w w.heap.size b3 b4 #[.int .i64 0,.int .i64 0,.string ⟨#[]⟩,.slice none 0 0,.int .i64 0,.int .i64 0,.int .i64 0] #[.int .i64 p,.int .i64 q] #[.int .i64 fd,.int .i64 ft,.string ⟨#[117,118]⟩,.slice (some ⟨b3,0,none⟩) 2 2] false false false false false false false false false undef undef undef undef undef undef undef undef undef W:=⟨D,Br,Bp,Bf,by omega,nofun,nofun,nofun,nofun,nofun,nofun,nofun,nofun,nofun⟩
 refine wp_region_sink 13 (fun a0 fL bA v=>∃ v14 v15 v16 v17 v18 v19 v20 v21 v22 v23 v24 v25 v26:Value,bA=((((((((((((a0.put (some 14) v14).put (some 15) v15).put (some 16) v16).put (some 17) v17).put (some 18) v18).put (some 19) v19).put (some 20) v20).put (some 21) v21).put (some 22) v22).put (some 23) v23).put (some 24) v24).put (some 25) v25).put (some 26) v26∧(ChV A n c g w w.heap.size b3 b4 #[.int .i64 0,.int .i64 0,.string ⟨#[]⟩,.slice none 0 0,.int .i64 0,.int .i64 0,.int .i64 0] #[.int .i64 p,.int .i64 q] #[.int .i64 fd,.int .i64 ft,.string ⟨#[117,118]⟩,.slice (some ⟨b3,0,none⟩) 2 2] (fL 2) (fL 3) (fL 4) (fL 6) (fL 7) (fL 8) (fL 10) (fL 11) (fL 12) v16 v17 v18 v20 v21 v22 v24 v25 v26 v)∧(fL 0=true→v14=.agg #[.int .i64 fd,.int .i64 ft,.string ⟨#[117,118]⟩,.slice (some ⟨b3,0,none⟩) 2 2])∧(fL 1=true→v15=.pointer (some ⟨g,0,none⟩))∧(fL 2=true→True)∧(fL 3=true→True)∧(fL 4=true→True)∧(fL 5=true→v19=.pointer (some ⟨g,0,none⟩))∧(fL 6=true→True)∧(fL 7=true→True)∧(fL 8=true→True)∧(fL 9=true→v23=.pointer (some ⟨g,0,none⟩))∧(fL 10=true→True)∧(fL 11=true→True)∧(fL 12=true→True)) (by kernel_rfl) (by decide +kernel) ?_ ?_ ?_
 ·exact ⟨undef,undef,undef,undef,undef,undef,undef,undef,undef,undef,undef,undef,undef,by simp only [Act.put,List.setIfInBounds_toArray,List.set_cons_zero,List.set_cons_succ],hM0.drew,nofun,nofun,nofun,nofun,nofun,nofun,nofun,nofun,nofun,nofun,nofun,nofun,nofun⟩
 ·rintro fL bA v ⟨v14,v15,v16,v17,v18,v19,v20,v21,v22,v23,v24,v25,v26,rfl,hS,q0,q1,q2,q3,q4,q5,q6,q7,q8,q9,q10,q11,q12⟩ i hi hf o ho hall
  simp only [Act.put,List.setIfInBounds_toArray,List.set_cons_zero,List.set_cons_succ]
  have hn:i=0 ∨ i=1 ∨ i=2 ∨ i=3 ∨ i=4 ∨ i=5 ∨ i=6 ∨ i=7 ∨ i=8 ∨ i=9 ∨ i=10 ∨ i=11 ∨ i=12:=by omega
  clear hi
  rcases hn with rfl | rfl | rfl | rfl | rfl | rfl | rfl | rfl | rfl | rfl | rfl | rfl | rfl
  ·obtain rfl:=Option.some.inj ho
   have y0:v.cell? ⟨b4,0,none⟩=some (.int .i64 fd):=hS.f.cell 0
   have y1:v.cell? ⟨b4,1,none⟩=some (.int .i64 ft):=hS.f.cell 1
   have y2:v.cell? ⟨b4,2,none⟩=some (.string ⟨#[117,118]⟩):=hS.f.cell 2
   have y3:v.cell? ⟨b4,3,none⟩=some (.slice (some ⟨b3,0,none⟩) 2 2):=hS.f.cell 3
   clear hall ho
   refine wpOp_step rfl (fun K hK=>?_)
   go_simp
   exact hK _ _ ⟨_,_,_,_,_,_,_,_,_,_,_,_,_,rfl,hS,fun _=>rfl,q1,fun _=>trivial,fun _=>trivial,fun _=>trivial,q5,fun _=>trivial,fun _=>trivial,fun _=>trivial,q9,fun _=>trivial,fun _=>trivial,fun _=>trivial⟩
  ·obtain rfl:=Option.some.inj ho
   clear hall ho
   refine wpOp_step rfl (fun K hK=>?_)
   go_simp
   exact hK _ _ ⟨_,_,_,_,_,_,_,_,_,_,_,_,_,rfl,hS,q0,fun _=>rfl,fun _=>trivial,fun _=>trivial,fun _=>trivial,q5,fun _=>trivial,fun _=>trivial,fun _=>trivial,q9,fun _=>trivial,fun _=>trivial,fun _=>trivial⟩
  ·obtain rfl:=Option.some.inj ho
   obtain rfl:=q1 (hall ⟨1,.data⟩ (by simp) rfl)
   clear hall ho
   refine wpOp_step rfl (fun K hK=>?_)
   go_simp
   refine Calls.mono (l01Next_c A n c g _ v hS.d.s) ?_;rintro e w9 ⟨xa,rfl,⟨ha1,ha2⟩,ha3,hS9,hg9⟩
   go_simp
   have ha:=hS.dr hS9 hg9
   exact hK _ _ ⟨_,_,_,_,_,_,_,_,_,_,_,_,_,rfl,{ ha with q16:=fun _=>⟨xa,rfl,by omega,by omega⟩ },q0,fun _=>rfl,fun _=>trivial,fun _=>trivial,fun _=>trivial,q5,fun _=>trivial,fun _=>trivial,fun _=>trivial,q9,fun _=>trivial,fun _=>trivial,fun _=>trivial⟩
  ·obtain rfl:=Option.some.inj ho
   have e2:fL 2=true:=hall ⟨2,.data⟩ (by simp) rfl
   obtain ⟨xa,rfl,ha1,ha2⟩:=hS.q16 e2
   have hw:IntKind.i64.wrap (100 * xa)=100 * xa:=IntWalk.i64_in _ (by omega)
   clear hall ho
   refine wpOp_step rfl (fun K hK=>?_)
   go_simp
   exact hK _ _ ⟨_,_,_,_,_,_,_,_,_,_,_,_,_,rfl,{ hS with q17:=fun _=>⟨_,rfl,by omega,by omega⟩ },q0,q1,fun _=>trivial,fun _=>trivial,fun _=>trivial,q5,fun _=>trivial,fun _=>trivial,fun _=>trivial,q9,fun _=>trivial,fun _=>trivial,fun _=>trivial⟩
  ·obtain rfl:=Option.some.inj ho
   have e3:fL 3=true:=hall ⟨3,.data⟩ (by simp) rfl
   obtain ⟨xa,rfl,ha1,ha2⟩:=hS.q17 e3
   have hw:IntKind.i64.wrap (10000+xa)=10000+xa:=IntWalk.i64_in _ (by omega)
   clear hall ho
   refine wpOp_step rfl (fun K hK=>?_)
   go_simp
   exact hK _ _ ⟨_,_,_,_,_,_,_,_,_,_,_,_,_,rfl,{ hS with q18:=fun _=>⟨_,rfl,by omega,by omega⟩ },q0,q1,fun _=>trivial,fun _=>trivial,fun _=>trivial,q5,fun _=>trivial,fun _=>trivial,fun _=>trivial,q9,fun _=>trivial,fun _=>trivial,fun _=>trivial⟩
  ·obtain rfl:=Option.some.inj ho
   clear hall ho
   refine wpOp_step rfl (fun K hK=>?_)
   go_simp
   exact hK _ _ ⟨_,_,_,_,_,_,_,_,_,_,_,_,_,rfl,hS,q0,q1,fun _=>trivial,fun _=>trivial,fun _=>trivial,fun _=>rfl,fun _=>trivial,fun _=>trivial,fun _=>trivial,q9,fun _=>trivial,fun _=>trivial,fun _=>trivial⟩
  ·obtain rfl:=Option.some.inj ho
   obtain rfl:=q5 (hall ⟨5,.data⟩ (by simp) rfl)
   clear hall ho
   refine wpOp_step rfl (fun K hK=>?_)
   go_simp
   refine Calls.mono (l01Next_c A n c g _ v hS.d.s) ?_;rintro e w9 ⟨xa,rfl,⟨ha1,ha2⟩,ha3,hS9,hg9⟩
   go_simp
   have ha:=hS.dr hS9 hg9
   exact hK _ _ ⟨_,_,_,_,_,_,_,_,_,_,_,_,_,rfl,{ ha with q20:=fun _=>⟨xa,rfl,by omega,by omega⟩ },q0,q1,fun _=>trivial,fun _=>trivial,fun _=>trivial,fun _=>rfl,fun _=>trivial,fun _=>trivial,fun _=>trivial,q9,fun _=>trivial,fun _=>trivial,fun _=>trivial⟩
  ·obtain rfl:=Option.some.inj ho
   have e6:fL 6=true:=hall ⟨6,.data⟩ (by simp) rfl
   obtain ⟨xa,rfl,ha1,ha2⟩:=hS.q20 e6
   have hw:IntKind.i64.wrap (100 * xa)=100 * xa:=IntWalk.i64_in _ (by omega)
   clear hall ho
   refine wpOp_step rfl (fun K hK=>?_)
   go_simp
   exact hK _ _ ⟨_,_,_,_,_,_,_,_,_,_,_,_,_,rfl,{ hS with q21:=fun _=>⟨_,rfl,by omega,by omega⟩ },q0,q1,fun _=>trivial,fun _=>trivial,fun _=>trivial,q5,fun _=>trivial,fun _=>trivial,fun _=>trivial,q9,fun _=>trivial,fun _=>trivial,fun _=>trivial⟩
  ·obtain rfl:=Option.some.inj ho
   have e7:fL 7=true:=hall ⟨7,.data⟩ (by simp) rfl
   obtain ⟨xa,rfl,ha1,ha2⟩:=hS.q21 e7
   have hw:IntKind.i64.wrap (1000+xa)=1000+xa:=IntWalk.i64_in _ (by omega)
   clear hall ho
   refine wpOp_step rfl (fun K hK=>?_)
   go_simp
   exact hK _ _ ⟨_,_,_,_,_,_,_,_,_,_,_,_,_,rfl,{ hS with q22:=fun _=>⟨_,rfl,by omega,by omega⟩ },q0,q1,fun _=>trivial,fun _=>trivial,fun _=>trivial,q5,fun _=>trivial,fun _=>trivial,fun _=>trivial,q9,fun _=>trivial,fun _=>trivial,fun _=>trivial⟩
  ·obtain rfl:=Option.some.inj ho
   clear hall ho
   refine wpOp_step rfl (fun K hK=>?_)
   go_simp
   exact hK _ _ ⟨_,_,_,_,_,_,_,_,_,_,_,_,_,rfl,hS,q0,q1,fun _=>trivial,fun _=>trivial,fun _=>trivial,q5,fun _=>trivial,fun _=>trivial,fun _=>trivial,fun _=>rfl,fun _=>trivial,fun _=>trivial,fun _=>trivial⟩
  ·obtain rfl:=Option.some.inj ho
   obtain rfl:=q9 (hall ⟨9,.data⟩ (by simp) rfl)
   clear hall ho
   refine wpOp_step rfl (fun K hK=>?_)
   go_simp
   refine Calls.mono (l01Next_c A n c g _ v hS.d.s) ?_;rintro e w9 ⟨xa,rfl,⟨ha1,ha2⟩,ha3,hS9,hg9⟩
   go_simp
   have ha:=hS.dr hS9 hg9
   exact hK _ _ ⟨_,_,_,_,_,_,_,_,_,_,_,_,_,rfl,{ ha with q24:=fun _=>⟨xa,rfl,by omega,by omega⟩ },q0,q1,fun _=>trivial,fun _=>trivial,fun _=>trivial,q5,fun _=>trivial,fun _=>trivial,fun _=>trivial,fun _=>rfl,fun _=>trivial,fun _=>trivial,fun _=>trivial⟩
  ·obtain rfl:=Option.some.inj ho
   have e10:fL 10=true:=hall ⟨10,.data⟩ (by simp) rfl
   obtain ⟨xa,rfl,ha1,ha2⟩:=hS.q24 e10
   have hw:IntKind.i64.wrap (100 * xa)=100 * xa:=IntWalk.i64_in _ (by omega)
   clear hall ho
   refine wpOp_step rfl (fun K hK=>?_)
   go_simp
   exact hK _ _ ⟨_,_,_,_,_,_,_,_,_,_,_,_,_,rfl,{ hS with q25:=fun _=>⟨_,rfl,by omega,by omega⟩ },q0,q1,fun _=>trivial,fun _=>trivial,fun _=>trivial,q5,fun _=>trivial,fun _=>trivial,fun _=>trivial,q9,fun _=>trivial,fun _=>trivial,fun _=>trivial⟩
  ·obtain rfl:=Option.some.inj ho
   have e11:fL 11=true:=hall ⟨11,.data⟩ (by simp) rfl
   obtain ⟨xa,rfl,ha1,ha2⟩:=hS.q25 e11
   have hw:IntKind.i64.wrap (1000+xa)=1000+xa:=IntWalk.i64_in _ (by omega)
   clear hall ho
   refine wpOp_step rfl (fun K hK=>?_)
   go_simp
   exact hK _ _ ⟨_,_,_,_,_,_,_,_,_,_,_,_,_,rfl,{ hS with q26:=fun _=>⟨_,rfl,by omega,by omega⟩ },q0,q1,fun _=>trivial,fun _=>trivial,fun _=>trivial,q5,fun _=>trivial,fun _=>trivial,fun _=>trivial,q9,fun _=>trivial,fun _=>trivial,fun _=>trivial⟩
 ·rintro fL bA v ⟨v14,v15,v16,v17,v18,v19,v20,v21,v22,v23,v24,v25,v26,rfl,hS,q0,q1,q2,q3,q4,q5,q6,q7,q8,q9,q10,q11,q12⟩ hall
  simp only [Act.put,List.setIfInBounds_toArray,List.set_cons_zero,List.set_cons_succ]
  obtain rfl:=q0 (hall 0 (by omega))
  obtain rfl:=q1 (hall 1 (by omega))
  have e2:fL 2=true:=hall 2 (by omega)
  have e3:fL 3=true:=hall 3 (by omega)
  have e4:fL 4=true:=hall 4 (by omega)
  obtain rfl:=q5 (hall 5 (by omega))
  have e6:fL 6=true:=hall 6 (by omega)
  have e7:fL 7=true:=hall 7 (by omega)
  have e8:fL 8=true:=hall 8 (by omega)
  obtain rfl:=q9 (hall 9 (by omega))
  have e10:fL 10=true:=hall 10 (by omega)
  have e11:fL 11=true:=hall 11 (by omega)
  have e12:fL 12=true:=hall 12 (by omega)
  clear hall
  simp only [List.drop_succ_cons,List.drop_zero]
  obtain ⟨wd,rfl,hwd⟩:=hS.q18 e4
  obtain ⟨lf,rfl,hlf⟩:=hS.q22 e8
  obtain ⟨rt,rfl,hrt⟩:=hS.q26 e12
  have hg:=hS.d
  have hx:=hS.x
  have hp':=hS.p
  have y0:v.cell? ⟨w.heap.size,0,none⟩=some (.int .i64 0):=hx.cell 0
  have y1:v.cell? ⟨w.heap.size,1,none⟩=some (.int .i64 0):=hx.cell 1
  have y2:v.cell? ⟨w.heap.size,2,none⟩=some (.string ⟨#[]⟩):=hx.cell 2
  have y3:v.cell? ⟨w.heap.size,3,none⟩=some (.slice none 0 0):=hx.cell 3
  have y4:v.cell? ⟨w.heap.size,4,none⟩=some (.int .i64 0):=hx.cell 4
  have y5:v.cell? ⟨w.heap.size,5,none⟩=some (.int .i64 0):=hx.cell 5
  have y6:v.cell? ⟨w.heap.size,6,none⟩=some (.int .i64 0):=hx.cell 6
  have f0:=hx.frozen 0
  have f1:=hx.frozen 1
  have f2:=hx.frozen 2
  have f3:=hx.frozen 3
  have f4:=hx.frozen 4
  have f5:=hx.frozen 5
  have f6:=hx.frozen 6
  clear hS hM0
  go_wp2
  refine bodyPost_ret (v:=.agg #[.int .i64 fd,.int .i64 ft,.string ⟨#[117,118]⟩,.slice (some ⟨b3,0,none⟩) 2 2,.int .i64 wd,.int .i64 lf,.int .i64 rt]) (by simp [results,Tryz.results80,go_sem,y0,y1,y2,y3,y4,y5,y6]) rfl ?_
  have hz:∀ {v':World} {j:Nat} {u:Value},Ds A n c g w v'→Ds A n c g w (v'.setCell ⟨w.heap.size,j,none⟩ u):=fun h=>h.set hlt (Nat.le_refl _)
  have hn3:b3 ≠ w.heap.size:=by omega
  have D9:=hz (j:=6) (u:=.int .i64 rt) (hz (j:=5) (u:=.int .i64 lf) (hz (j:=4) (u:=.int .i64 wd) (hz (j:=3) (u:=.slice (some ⟨b3,0,none⟩) 2 2) (hz (j:=2) (u:=.string ⟨#[117,118]⟩) (hz (j:=1) (u:=.int .i64 ft) (hz (j:=0) (u:=.int .i64 fd) hg))))))
  exact ⟨fd,ft,p,q,wd,lf,rt,b3,rfl,by omega,((((((hp'.far hn3 _).far hn3 _).far hn3 _).far hn3 _).far hn3 _).far hn3 _).far hn3 _,hp,hq,by omega,by omega,D9.s,D9.g⟩
end Go.Proofs.YtednjmldjbndhaaGreatDoor
