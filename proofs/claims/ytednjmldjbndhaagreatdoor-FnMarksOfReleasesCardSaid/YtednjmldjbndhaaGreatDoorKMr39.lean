/- The reference's draw of entries. Condition: the code has at most 4096 bytes. -/
import Derived.Deep.DeepCutAuto
import Derived.Deep.CutBlock
import Derived.Test.YtednjmldjbndhaaGreatDoorKMr38
set_option linter.unusedSimpArgs false
set_option linter.unusedVariables false
set_option maxRecDepth 100000
set_option maxHeartbeats 8000000
namespace Go.Proofs.YtednjmldjbndhaaGreatDoor
open Go.RowKit
structure PkS (I:World→Prop) (L:Array Value) (m g:Nat) (bA bI bP bT:Bool) (vA vI vP vT:Value) (v:World):Prop where
 i:I v
 gl:g < v.heap.size
 qA:bA=true→∃ bb,vA=.slice (some ⟨bb,0,none⟩) m m∧Blk v bb 9 L∧bb ≠ g
 qI:bI=true→∃ r:Nat,r < m∧vI=.int .i64 r
 qP:bP=true→∃ r bb:Nat,r < m∧vP=.pointer (some ⟨bb,r,none⟩)∧Blk v bb 9 L∧bb ≠ g
 qT:bT=true→∃ (r:Nat) (y:ByteArray),r < m∧L[r]?=some (.string y)∧vT=.string y
section
variable {I I' : World → Prop} {L : Array Value} {m g : Nat} {bA bI bP bT : Bool} {vA vI vP vT : Value} {v v' : World}
theorem PkS.start (hi:I v.drew) (hg:g < v.heap.size):PkS I L m g false false false false vA vI vP vT v.drew:=⟨hi,hg,nofun,nofun,nofun,nofun⟩
theorem PkS.same (h:PkS I L m g bA bI bP bT vA vI vP vT v) (hi:I' v):PkS I' L m g bA bI bP bT vA vI vP vT v:=⟨hi,h.gl,h.qA,h.qI,h.qP,h.qT⟩
theorem PkS.mk1 (h:PkS I L m g bA bI bP bT vA vI vP vT v) (hi:I' (v.alloc (.cells L 9))):PkS I' L m g true bI bP bT (.slice (some ⟨v.heap.size,0,none⟩) m m) vI vP vT (v.alloc (.cells L 9)) :=
 ⟨hi,by have:=h.gl;simp;omega,fun _=>⟨_,rfl,Blk.new _ _ _,(by have:=h.gl;omega)⟩,h.qI,(fun e=>by
  obtain ⟨r,bb,h0,h1,h2,h3⟩:=h.qP e
  exact ⟨r,bb,h0,h1,h2.alloc _,h3⟩),h.qT⟩
theorem PkS.to (h:PkS I L m g bA bI bP bT vA vI vP vT v) (hg:v.grownBy v' (some g)) (hi:I' v'):PkS I' L m g bA bI bP bT vA vI vP vT v' :=
 ⟨hi,Nat.lt_of_lt_of_le h.gl hg.size,(fun e=>by
  obtain ⟨bb,h1,h2,h3⟩:=h.qA e
  exact ⟨bb,h1,h2.src hg h3,h3⟩),h.qI,(fun e=>by
  obtain ⟨r,bb,h0,h1,h2,h3⟩:=h.qP e
  exact ⟨r,bb,h0,h1,h2.src hg h3,h3⟩),h.qT⟩
theorem PkS.pick (h:PkS I L m g bA bI bP bT vA vI vP vT v) (q:Nat) (hq:q < m) (hg:v.grownBy v' (some g)) (hi:I' v'):PkS I' L m g bA true bP bT vA (.int .i64 q) vP vT v' :=
 have k:=h.to hg hi;⟨k.i,k.gl,k.qA,fun _=>⟨q,hq,rfl⟩,k.qP,k.qT⟩
theorem PkS.ix (h:PkS I L m g bA bI bP bT vA vI vP vT v) {r bb:Nat} (hr:r < m) (hB:Blk v bb 9 L) (hb:bb ≠ g):PkS I L m g bA bI true bT vA vI (.pointer (some ⟨bb,r,none⟩)) vT v :=
 ⟨h.i,h.gl,h.qA,h.qI,fun _=>⟨r,bb,hr,rfl,hB,hb⟩,h.qT⟩
theorem PkS.ld (h:PkS I L m g bA bI bP bT vA vI vP vT v) {r:Nat} {y:ByteArray} (hr:r < m) (hy:L[r]?=some (.string y)):PkS I L m g bA bI bP true vA vI vP (.string y) v :=
 ⟨h.i,h.gl,h.qA,h.qI,h.qP,fun _=>⟨r,y,hr,hy,rfl⟩⟩
end
def EnD (v:World) (lo:Nat) (ow:Option Nat) (f:EnR):Prop:=(f.e.ti.size ≤ 13∧f.e.r.nm.size ≤ 7∧f.e.r.l.length ≤ 6)∧PwN v lo f.A f.e.r.l∧∀ b off,f.A=some ⟨b,off,none⟩→ow ≠ some b
structure EnsD (v:World) (lo:Nat) (V:Value) (es:List EnR):Prop where
 n:es.length ≤ 13
 o:Own v lo 35 20 V (es.map EnR.cells)
 i:∀ f ∈ es,EnD v lo V.ownBlock f
section
variable {v v' : World} {lo g : Nat} {ow : Option Nat} {V : Value} {f : EnR} {es : List EnR}
theorem EnD.src (h:EnD v lo ow f) (hg:v.grownBy v' (some g)) (hl:g < lo):EnD v' lo ow f:=⟨h.1,h.2.1.src hg hl,h.2.2⟩
theorem EnD.below (h:EnD v lo ow f) (hb:Below v.heap.size v v'):EnD v' lo ow f:=⟨h.1,h.2.1.below hb,h.2.2⟩
theorem EnsD.src (h:EnsD v lo V es) (hg:v.grownBy v' (some g)) (hl:g < lo):EnsD v' lo V es:=⟨h.n,h.o.src hg hl,fun f hf=>(h.i f hf).src hg hl⟩
theorem EnsD.below (h:EnsD v lo V es) (hb:Below v.heap.size v v'):EnsD v' lo V es:=⟨h.n,h.o.below hb,fun f hf=>(h.i f hf).below hb⟩
theorem EnsD.alloc (h:EnsD v lo V es) (ob:Obj):EnsD (v.alloc ob) lo V es:=h.below ((Below.refl _ _).alloc (Nat.le_refl _) ob)
theorem EnD.off (h:EnD v lo ow f) {b:Nat} (hg:v.grownBy v' (some b)) (hn:∀ b' off,f.A=some ⟨b',off,none⟩→b' ≠ b):EnD v' lo ow f :=
 ⟨h.1,h.2.1.keep_ hg.size (fun b' off e hb _=>hg.block b' hb (fun e2=>hn b' off e (Option.some.inj e2))),h.2.2⟩
theorem PwN.off {A:Option Addr} {l:List Int} (h:PwN v' lo A l) (hV:∀ x,V.ownBlock=some x→x < lo):∀ b off,A=some ⟨b,off,none⟩→V.ownBlock ≠ some b:=fun b off e hx=>by
 have h1:=h.nb b off e
 have h2:=hV b hx
 omega
end
theorem Rl.cells_inj {r r':Rl} {A A':Option Addr} {c c':Nat} (h:Value.agg (r.cells A c).toArray=Value.agg (r'.cells A' c').toArray):A=A':=by
 have h1:(r.cells A c).toArray=(r'.cells A' c').toArray:=by injection h
 have h2:(r.cells A c)[3]?=(r'.cells A' c')[3]?:=congrArg (fun a:Array Value=>a.toList[3]?) h1
 simp only [Rl.cells,List.getElem?_cons_succ,List.getElem?_cons_zero,Option.some.injEq,Value.slice.injEq] at h2
 exact h2.1
structure E1S (A:Option Addr) (n c g:Nat) (w:World) (lo:Nat) (V:Value) (es:List EnR) (b16 b17 b19 b24 b25 b26 b5:Bool) (v16 v17 v19 v24 v25 v26 v5:Value) (v:World):Prop where
 d:Ds A n c g w v
 l:EnsD v lo V es
 z:Blk v w.heap.size 35 EnZ.toArray
 q16:b16=true→∃ x:Int,v16=.int .i64 x
 q17:b17=true→∃ x:Int,v17=.int .i64 x
 q19:b19=true→∃ (r:Rl) (B:Option Addr) (d:Nat),v19=.agg (r.cells B d).toArray∧(r.nm.size ≤ 7∧r.l.length ≤ 6)∧PwN v lo B r.l∧∀ b off,B=some ⟨b,off,none⟩→V.ownBlock ≠ some b
 q24:b24=true→∃ x:Int,v24=.int .i64 x
 q25:b25=true→∃ x:Int,v25=.int .i64 x
 q26:b26=true→b19=true∧∃ f:EnR,v26=.agg f.cells.toArray∧EnD v lo V.ownBlock f∧v19=.agg (f.e.r.cells f.A f.c).toArray
 q5:b5=true→∃ be,v5=.pointer (some ⟨be,0,none⟩)∧Blk v be 35 EnZ.toArray∧w.heap.size < be
 qx:b5=true→b19=true→∀ be b off d (r:Rl),v5=.pointer (some ⟨be,0,none⟩)→v19=.agg (r.cells (some ⟨b,off,none⟩) d).toArray→b ≠ be
 qz:b19=true→∀ b off d (r:Rl),v19=.agg (r.cells (some ⟨b,off,none⟩) d).toArray→b ≠ w.heap.size
section
variable {A : Option Addr} {n c g : Nat} {w : World} {lo : Nat} {V : Value} {es : List EnR} {b16 b17 b19 b24 b25 b26 b5 : Bool} {v16 v17 v19 v24 v25 v26 v5 : Value} {v v' : World}
theorem E1S.to (h:E1S A n c g w lo V es b16 b17 b19 b24 b25 b26 b5 v16 v17 v19 v24 v25 v26 v5 v) (hl:g < lo) (hw:g < w.heap.size) (hS:Src v' A n c g) (hg:v.grownBy v' (some g)):E1S A n c g w lo V es b16 b17 b19 b24 b25 b26 b5 v16 v17 v19 v24 v25 v26 v5 v' :=
 ⟨h.d.to hS hg,h.l.src hg hl,h.z.src hg (by omega),h.q16,h.q17,fun e=>let ⟨r,B,d,h1,h2,h3,h4⟩:=h.q19 e;⟨r,B,d,h1,h2,h3.src hg hl,h4⟩,h.q24,h.q25,fun e=>let ⟨h0,f,h1,h2,h3⟩:=h.q26 e;⟨h0,f,h1,h2.src hg hl,h3⟩,fun e=>let ⟨be,h1,h2,h3⟩:=h.q5 e;⟨be,h1,h2.src hg (by omega),h3⟩,h.qx,h.qz⟩
theorem E1S.below (h:E1S A n c g w lo V es b16 b17 b19 b24 b25 b26 b5 v16 v17 v19 v24 v25 v26 v5 v) (hb:Below v.heap.size v v'):E1S A n c g w lo V es b16 b17 b19 b24 b25 b26 b5 v16 v17 v19 v24 v25 v26 v5 v' :=
 ⟨h.d.below hb,h.l.below hb,h.z.below hb h.z.lt,h.q16,h.q17,fun e=>let ⟨r,B,d,h1,h2,h3,h4⟩:=h.q19 e;⟨r,B,d,h1,h2,h3.below hb,h4⟩,h.q24,h.q25,fun e=>let ⟨h0,f,h1,h2,h3⟩:=h.q26 e;⟨h0,f,h1,h2.below hb,h3⟩,fun e=>let ⟨be,h1,h2,h3⟩:=h.q5 e;⟨be,h1,h2.below hb h2.lt,h3⟩,h.qx,h.qz⟩
theorem E1S.s16 (h:E1S A n c g w lo V es b16 b17 b19 b24 b25 b26 b5 v16 v17 v19 v24 v25 v26 v5 v) (x:Int):E1S A n c g w lo V es true b17 b19 b24 b25 b26 b5 (.int .i64 x) v17 v19 v24 v25 v26 v5 v:=⟨h.d,h.l,h.z,fun _=>⟨x,rfl⟩,h.q17,h.q19,h.q24,h.q25,h.q26,h.q5,h.qx,h.qz⟩
theorem E1S.s17 (h:E1S A n c g w lo V es b16 b17 b19 b24 b25 b26 b5 v16 v17 v19 v24 v25 v26 v5 v) (x:Int):E1S A n c g w lo V es b16 true b19 b24 b25 b26 b5 v16 (.int .i64 x) v19 v24 v25 v26 v5 v:=⟨h.d,h.l,h.z,h.q16,fun _=>⟨x,rfl⟩,h.q19,h.q24,h.q25,h.q26,h.q5,h.qx,h.qz⟩
theorem E1S.s24 (h:E1S A n c g w lo V es b16 b17 b19 b24 b25 b26 b5 v16 v17 v19 v24 v25 v26 v5 v) (x:Int):E1S A n c g w lo V es b16 b17 b19 true b25 b26 b5 v16 v17 v19 (.int .i64 x) v25 v26 v5 v:=⟨h.d,h.l,h.z,h.q16,h.q17,h.q19,fun _=>⟨x,rfl⟩,h.q25,h.q26,h.q5,h.qx,h.qz⟩
theorem E1S.s25 (h:E1S A n c g w lo V es b16 b17 b19 b24 b25 b26 b5 v16 v17 v19 v24 v25 v26 v5 v) (x:Int):E1S A n c g w lo V es b16 b17 b19 b24 true b26 b5 v16 v17 v19 v24 (.int .i64 x) v26 v5 v:=⟨h.d,h.l,h.z,h.q16,h.q17,h.q19,h.q24,fun _=>⟨x,rfl⟩,h.q26,h.q5,h.qx,h.qz⟩
theorem E1S.s26 (h:E1S A n c g w lo V es b16 b17 b19 b24 b25 b26 b5 v16 v17 v19 v24 v25 v26 v5 v) (h19:b19=true) {f:EnR} (hf:EnD v lo V.ownBlock f) (hv:v19=.agg (f.e.r.cells f.A f.c).toArray):E1S A n c g w lo V es b16 b17 b19 b24 b25 true b5 v16 v17 v19 v24 v25 (.agg f.cells.toArray) v5 v:=⟨h.d,h.l,h.z,h.q16,h.q17,h.q19,h.q24,h.q25,fun _=>⟨h19,f,rfl,hf,hv⟩,h.q5,h.qx,h.qz⟩
theorem E1S.s5 (h:E1S A n c g w lo V es b16 b17 b19 b24 b25 b26 b5 v16 v17 v19 v24 v25 v26 v5 v):E1S A n c g w lo V es b16 b17 b19 b24 b25 b26 true v16 v17 v19 v24 v25 v26 (.pointer (some ⟨v.heap.size,0,none⟩)) (v.alloc (.cells EnZ.toArray 35)) :=
 have k:=h.below ((Below.refl v.heap.size v).alloc (Nat.le_refl _) (.cells EnZ.toArray 35))
 ⟨k.d,k.l,k.z,k.q16,k.q17,k.q19,k.q24,k.q25,k.q26,fun _=>⟨_,rfl,Blk.new _ _ _,h.z.lt⟩,fun _ e be b off d r h5 h19=>by
  obtain ⟨r2,B2,d2,h1,_,h3,_⟩:=h.q19 e
  rw [h1] at h19
  obtain rfl:=Rl.cells_inj h19
  have:=h3.ub b off rfl
  cases h5
  omega,k.qz⟩
theorem E1S.s19 (h:E1S A n c g w lo V es b16 b17 b19 b24 b25 b26 b5 v16 v17 v19 v24 v25 v26 v5 v) (h26:b26=false) (hl:g < lo) (hlv:lo ≤ v.heap.size) (hw:g < w.heap.size) (hS:Src v' A n c g) (hg:v.grownBy v' (some g)) {r:Rl} {B:Option Addr} {d:Nat} (hr:r.nm.size ≤ 7∧r.l.length ≤ 6) (P:PwN v' (v.heap.size+1) B r.l) (hV:∀ x,V.ownBlock=some x→x < v.heap.size):E1S A n c g w lo V es b16 b17 true b24 b25 b26 b5 v16 v17 (.agg (r.cells B d).toArray) v24 v25 v26 v5 v' :=
 have k:=h.to hl hw hS hg
 ⟨k.d,k.l,k.z,k.q16,k.q17,fun _=>⟨r,B,d,rfl,hr,P.weak (by omega),PwN.off P (fun x hx=>by have:=hV x hx;omega)⟩,k.q24,k.q25,(fun e=>by rw [h26] at e;cases e),k.q5,fun e _ be b off d2 r2 h5 h19=>by
  obtain ⟨be2,h1,h2,_⟩:=h.q5 e
  rw [h1] at h5
  cases h5
  obtain rfl:=Rl.cells_inj h19
  have:=P.nb b off rfl
  have:=h2.lt
  omega,fun _ b off d2 r2 h19=>by
  obtain rfl:=Rl.cells_inj h19
  have:=P.nb b off rfl
  have:=h.z.lt
  omega⟩
end
theorem EnsD.old {w v v':World} {lo b:Nat} {V:Value} {es:List EnR} (h0:EnsD w lo V es) (h:EnsD v lo V es) (hg:v.grownBy v' (some b)) (hb:w.heap.size ≤ b):EnsD v' lo V es :=
 ⟨h.n,h.o.kept hg (.inr (fun e=>by have:=(h0.o.1.lt b e).2;omega)),fun f hf=>(h.i f hf).off hg (fun b' off e=>by have:=(h0.i f hf).2.1.ub b' off e;omega)⟩
structure EnV (A:Option Addr) (n c g:Nat) (w:World) (lo:Nat) (V:Value) (es:List EnR) (be:Nat) (f:EnR) (wx:World):Prop where
 e:EnD wx lo V.ownBlock f
 d:Ds A n c g w wx
 l:EnsD wx lo V es
 z:Blk wx w.heap.size 35 EnZ.toArray
 b:Blk wx be 35 f.cells.toArray
 o:∀ b off,f.A=some ⟨b,off,none⟩→b ≠ be∧b ≠ w.heap.size
section
variable {A : Option Addr} {n c g : Nat} {w : World} {lo : Nat} {V : Value} {es : List EnR} {be : Nat} {f : EnR} {v v' : World}
theorem EnV.to (h:EnV A n c g w lo V es be f v) (hl:g < lo) (hw:g < w.heap.size) (hb:w.heap.size < be) (hS:Src v' A n c g) (hg:v.grownBy v' (some g)):EnV A n c g w lo V es be f v' :=
 ⟨h.e.src hg hl,h.d.to hS hg,h.l.src hg hl,h.z.src hg (by omega),h.b.src hg (by omega),h.o⟩
theorem EnV.below (h:EnV A n c g w lo V es be f v) (hb:Below v.heap.size v v'):EnV A n c g w lo V es be f v' :=
 ⟨h.e.below hb,h.d.below hb,h.l.below hb,h.z.below hb h.z.lt,h.b.below hb h.b.lt,h.o⟩
theorem grown_one (v:World) (b k:Nat) (u:Value):v.grownBy (v.setCell ⟨b,k,none⟩ u) (some b):=grownBy_stores [u] k (World.grownBy.refl v (some b))
theorem EnV.put (h:EnV A n c g w lo V es be f v) (h0:EnsD w lo V es) (hw:g < w.heap.size) (hb:w.heap.size < be) (hg:v.grownBy v' (some be)) {f':EnR} (hB:Blk v' be 35 f'.cells.toArray) (hf:EnD v lo V.ownBlock f') (ho:∀ b off,f'.A=some ⟨b,off,none⟩→b ≠ be∧b ≠ w.heap.size):EnV A n c g w lo V es be f' v' :=
 ⟨hf.off hg (fun b off e=>(ho b off e).1),h.d.new hg (by omega) (by omega),h0.old h.l hg (by omega),h.z.src hg (by omega),hB,ho⟩
end
def DEn (A:Option Addr) (n c g:Nat) (w:World) (lo:Nat) (V:Value) (e:Ending) (w':World):Prop:=∃ f:EnR,e=.returned (.agg f.cells.toArray)∧EnD w' lo V.ownBlock f∧Src w' A n c g∧w.grownBy w' (some g)
theorem aggEnD (W:World):(isAgg 35).run Tryz.prog W=.ok true W:=by simp [isAgg,go_sem]
theorem szEnD (W:World):(sizeOf 35).run Tryz.prog W=.ok 20 W:=by simp [go_sem]
def tit3:Array Value:=#[.string ⟨#[118,111,108,116]⟩,.string ⟨#[102,108,111,119]⟩,.string ⟨#[119,105,110,100]⟩]
def tit4:Array Value:=#[.string ⟨#[]⟩,.string ⟨#[86,111,108,116]⟩,.string ⟨#[97,98,99,100,101,102,103,104,105,106,107,108,109]⟩,.string ⟨#[102,108,111,119]⟩]
theorem tit3_at {r:Nat} (h:r < 3):∃ y:ByteArray,tit3[r]?=some (.string y)∧y.size ≤ 13:=by
 have:r=0 ∨ r=1 ∨ r=2:=by omega
 rcases this with rfl | rfl | rfl
 all_goals exact ⟨_,rfl,by decide⟩
theorem tit4_at {r:Nat} (h:r < 4):∃ y:ByteArray,tit4[r]?=some (.string y)∧y.size ≤ 13:=by
 have:r=0 ∨ r=1 ∨ r=2 ∨ r=3:=by omega
 rcases this with rfl | rfl | rfl | rfl
 all_goals exact ⟨_,rfl,by decide⟩
theorem l33DrawEntry_c (A:Option Addr) (n c g:Nat) (w:World) (hS:Src w A n c g) (lo:Nat) (Al:Option Addr) (cl:Nat) (es:List EnR) (hE:EnsD w lo (.slice Al es.length cl) es) (hlo:g < lo) (hlw:lo ≤ w.heap.size) :
  Calls Tryz.prog 38 #[.pointer (some ⟨g,0,none⟩),.slice Al es.length cl] w (DEn A n c g w lo (.slice Al es.length cl)):=by
 have hlt:=hS.lt
 have hn:=hE.n
 have hV:∀ x,(Value.slice Al es.length cl).ownBlock=some x→x < w.heap.size:=fun x h=>(hE.o.1.lt x h).2
 have D0:=(Ds.init hS).alloc (.cells EnZ.toArray 35)
 have B0:=Blk.new w 35 EnZ.toArray
 have E0:=hE.alloc (.cells EnZ.toArray 35)
 have hz9:(w.alloc (.cells EnZ.toArray 35)).heap.size=w.heap.size+1:=by simp
 have hE0:=Lib.hid hE
 clear hS hE
 unfold EnZ at D0 E0 hz9
 have B0':Blk (w.alloc (.cells [.string ⟨#[]⟩,.int .i64 0,.int .i64 0,.int .i64 0,.string ⟨#[]⟩,.slice none 0 0,.int .i64 0,.int .i64 0,.int .i64 0,.int .i64 0,.int .i64 0,.int .i64 0,.int .i64 0,.int .i64 0,.int .i64 0,.int .i64 0,.int .i64 0,.int .i64 0,.int .i64 0,.int .i64 0].toArray 35)) w.heap.size 35 EnZ.toArray:=B0
 clear B0
 have hV2:=Lib.hid hV
 unfold DEn
 go_enter Tryz.func38,Tryz.ntmps38
 go_upto_region 1 with fail
 generalize w.alloc (.cells [.string ⟨#[]⟩,.int .i64 0,.int .i64 0,.int .i64 0,.string ⟨#[]⟩,.slice none 0 0,.int .i64 0,.int .i64 0,.int .i64 0,.int .i64 0,.int .i64 0,.int .i64 0,.int .i64 0,.int .i64 0,.int .i64 0,.int .i64 0,.int .i64 0,.int .i64 0,.int .i64 0,.int .i64 0].toArray 35)=w0 at *
 have h1:E1S A n c g w lo (.slice Al es.length cl) es false false false false false false false undef undef undef undef undef undef undef w0.drew:=⟨D0.drew,E0.below (Below.refl _ _).drew,B0'.drewN 1,nofun,nofun,nofun,nofun,nofun,nofun,nofun,nofun,nofun⟩
 have hg0:g < w0.heap.size:=D0.s.lt
 have hw14:IntKind.i64.wrap ((es.length:Int)+1)=es.length+1:=IntWalk.i64_in _ (by omega)
 clear D0 E0 B0'
 have hn':=Lib.hid hn
 clear hn
 refine wp_region_sink 21 (fun a0 fL bA v=>∃ v7 v8 v9 v10 v11 v12 v13 v14 v15 v16 v17 v18 v19 v20 v21 v22 v23 v24 v25 v26 v5:Value,bA=((((((((((((((((((((a0.put (some 7) v7).put (some 8) v8).put (some 9) v9).put (some 10) v10).put (some 11) v11).put (some 12) v12).put (some 13) v13).put (some 14) v14).put (some 15) v15).put (some 16) v16).put (some 17) v17).put (some 18) v18).put (some 19) v19).put (some 20) v20).put (some 21) v21).put (some 22) v22).put (some 23) v23).put (some 24) v24).put (some 25) v25).put (some 26) v26).put (some 5) v5∧(PkS (E1S A n c g w lo (.slice Al es.length cl) es (fL 9) (fL 10) (fL 12) (fL 17) (fL 18) (fL 19) (fL 20) v16 v17 v19 v24 v25 v26 v5) tit3 3 g (fL 0) (fL 2) (fL 3) (fL 4) v7 v9 v10 v11 v)∧(fL 0=true→True)∧(fL 1=true→v8=.pointer (some ⟨g,0,none⟩))∧(fL 2=true→True)∧(fL 3=true→True)∧(fL 4=true→True)∧(fL 5=true→v12=.slice Al es.length cl)∧(fL 6=true→v13=.int .i64 es.length)∧(fL 7=true→v14=.int .i64 (es.length+1))∧(fL 8=true→v15=.pointer (some ⟨g,0,none⟩))∧(fL 9=true→True)∧(fL 10=true→True)∧(fL 11=true→v18=.pointer (some ⟨g,0,none⟩))∧(fL 12=true→True)∧(fL 13=true→v20=.pointer (some ⟨g,0,none⟩))∧(fL 14=true→v21=.slice Al es.length cl)∧(fL 15=true→v22=.int .i64 es.length)∧(fL 16=true→v23=.int .i64 (es.length+1))∧(fL 17=true→True)∧(fL 18=true→True)∧(fL 19=true→True)∧(fL 20=true→True)) (by kernel_rfl) (by decide +kernel) ?_ ?_ ?_
 ·exact ⟨undef,undef,undef,undef,undef,undef,undef,undef,undef,undef,undef,undef,undef,undef,undef,undef,undef,undef,undef,undef,undef,by simp only [Act.put,List.setIfInBounds_toArray,List.set_cons_zero,List.set_cons_succ],PkS.start h1 hg0,nofun,nofun,nofun,nofun,nofun,nofun,nofun,nofun,nofun,nofun,nofun,nofun,nofun,nofun,nofun,nofun,nofun,nofun,nofun,nofun,nofun⟩
 ·rintro fL bA v ⟨v7,v8,v9,v10,v11,v12,v13,v14,v15,v16,v17,v18,v19,v20,v21,v22,v23,v24,v25,v26,v5,rfl,hS,q0,q1,q2,q3,q4,q5,q6,q7,q8,q9,q10,q11,q12,q13,q14,q15,q16,q17,q18,q19,q20⟩ i hi hf o ho hall
  simp only [Act.put,List.setIfInBounds_toArray,List.set_cons_zero,List.set_cons_succ]
  have hn:i=0 ∨ i=1 ∨ i=2 ∨ i=3 ∨ i=4 ∨ i=5 ∨ i=6 ∨ i=7 ∨ i=8 ∨ i=9 ∨ i=10 ∨ i=11 ∨ i=12 ∨ i=13 ∨ i=14 ∨ i=15 ∨ i=16 ∨ i=17 ∨ i=18 ∨ i=19 ∨ i=20:=by omega
  clear hi
  rcases hn with rfl | rfl | rfl | rfl | rfl | rfl | rfl | rfl | rfl | rfl | rfl | rfl | rfl | rfl | rfl | rfl | rfl | rfl | rfl | rfl | rfl
  ·obtain rfl:=Option.some.inj ho
   clear hall ho
   refine wpOp_step rfl (fun K hK=>?_)
   go_simp
   exact hK _ _ ⟨_,_,_,_,_,_,_,_,_,_,_,_,_,_,_,_,_,_,_,_,_,rfl,hS.mk1 (hS.i.below ((Below.refl _ _).alloc (Nat.le_refl _) _)),fun _=>trivial,q1,fun _=>trivial,fun _=>trivial,fun _=>trivial,q5,q6,q7,q8,fun _=>trivial,fun _=>trivial,q11,fun _=>trivial,q13,q14,q15,q16,fun _=>trivial,fun _=>trivial,fun _=>trivial,fun _=>trivial⟩
  ·obtain rfl:=Option.some.inj ho
   clear hall ho
   refine wpOp_step rfl (fun K hK=>?_)
   go_simp
   exact hK _ _ ⟨_,_,_,_,_,_,_,_,_,_,_,_,_,_,_,_,_,_,_,_,_,rfl,hS,fun _=>trivial,fun _=>rfl,fun _=>trivial,fun _=>trivial,fun _=>trivial,q5,q6,q7,q8,fun _=>trivial,fun _=>trivial,q11,fun _=>trivial,q13,q14,q15,q16,fun _=>trivial,fun _=>trivial,fun _=>trivial,fun _=>trivial⟩
  ·obtain rfl:=Option.some.inj ho
   obtain rfl:=q1 (hall ⟨1,.data⟩ (by simp) rfl)
   clear hall ho
   refine wpOp_step rfl (fun K hK=>?_)
   go_simp
   refine Calls.mono (l01Next_c A n c g 3 v hS.i.d.s) ?_;rintro e w5 ⟨qq,rfl,⟨qa1,qa2⟩,qd,hS5,hg5⟩
   obtain ⟨r,rfl⟩:=Int.eq_ofNat_of_zero_le qa1
   go_simp
   exact hK _ _ ⟨_,_,_,_,_,_,_,_,_,_,_,_,_,_,_,_,_,_,_,_,_,rfl,hS.pick r (by omega) hg5 (hS.i.to hlo hlt hS5 hg5),fun _=>trivial,fun _=>rfl,fun _=>trivial,fun _=>trivial,fun _=>trivial,q5,q6,q7,q8,fun _=>trivial,fun _=>trivial,q11,fun _=>trivial,q13,q14,q15,q16,fun _=>trivial,fun _=>trivial,fun _=>trivial,fun _=>trivial⟩
  ·obtain rfl:=Option.some.inj ho
   have e0:fL 0=true:=hall ⟨0,.data⟩ (by simp) rfl
   have e2:fL 2=true:=hall ⟨2,.data⟩ (by simp) rfl
   obtain ⟨bb,rfl,hB1,hn1⟩:=hS.qA e0
   obtain ⟨r,hr,rfl⟩:=hS.qI e2
   have hr2:(r:Int) < 3:=by omega
   clear hall ho
   refine wpOp_step rfl (fun K hK=>?_)
   go_simp
   exact hK _ _ ⟨_,_,_,_,_,_,_,_,_,_,_,_,_,_,_,_,_,_,_,_,_,rfl,hS.ix hr hB1 hn1,fun _=>trivial,q1,fun _=>trivial,fun _=>trivial,fun _=>trivial,q5,q6,q7,q8,fun _=>trivial,fun _=>trivial,q11,fun _=>trivial,q13,q14,q15,q16,fun _=>trivial,fun _=>trivial,fun _=>trivial,fun _=>trivial⟩
  ·obtain rfl:=Option.some.inj ho
   have e3:fL 3=true:=hall ⟨3,.data⟩ (by simp) rfl
   obtain ⟨r,bb,hr,rfl,hB1,hn1⟩:=hS.qP e3
   obtain ⟨y,hy,hysz⟩:=tit3_at hr
   have yc:v.cell? ⟨bb,r,none⟩=some (.string y):=hB1.cl r hy
   clear hall ho
   refine wpOp_step rfl (fun K hK=>?_)
   go_simp
   exact hK _ _ ⟨_,_,_,_,_,_,_,_,_,_,_,_,_,_,_,_,_,_,_,_,_,rfl,hS.ld hr hy,fun _=>trivial,q1,fun _=>trivial,fun _=>trivial,fun _=>trivial,q5,q6,q7,q8,fun _=>trivial,fun _=>trivial,q11,fun _=>trivial,q13,q14,q15,q16,fun _=>trivial,fun _=>trivial,fun _=>trivial,fun _=>trivial⟩
  ·obtain rfl:=Option.some.inj ho
   clear hall ho
   refine wpOp_step rfl (fun K hK=>?_)
   go_simp
   exact hK _ _ ⟨_,_,_,_,_,_,_,_,_,_,_,_,_,_,_,_,_,_,_,_,_,rfl,hS,fun _=>trivial,q1,fun _=>trivial,fun _=>trivial,fun _=>trivial,fun _=>rfl,q6,q7,q8,fun _=>trivial,fun _=>trivial,q11,fun _=>trivial,q13,q14,q15,q16,fun _=>trivial,fun _=>trivial,fun _=>trivial,fun _=>trivial⟩
  ·obtain rfl:=Option.some.inj ho
   obtain rfl:=q5 (hall ⟨5,.data⟩ (by simp) rfl)
   clear hall ho
   refine wpOp_step rfl (fun K hK=>?_)
   go_simp
   exact hK _ _ ⟨_,_,_,_,_,_,_,_,_,_,_,_,_,_,_,_,_,_,_,_,_,rfl,hS,fun _=>trivial,q1,fun _=>trivial,fun _=>trivial,fun _=>trivial,fun _=>rfl,fun _=>rfl,q7,q8,fun _=>trivial,fun _=>trivial,q11,fun _=>trivial,q13,q14,q15,q16,fun _=>trivial,fun _=>trivial,fun _=>trivial,fun _=>trivial⟩
  ·obtain rfl:=Option.some.inj ho
   obtain rfl:=q6 (hall ⟨6,.data⟩ (by simp) rfl)
   clear hall ho
   refine wpOp_step rfl (fun K hK=>?_)
   go_simp
   exact hK _ _ ⟨_,_,_,_,_,_,_,_,_,_,_,_,_,_,_,_,_,_,_,_,_,rfl,hS,fun _=>trivial,q1,fun _=>trivial,fun _=>trivial,fun _=>trivial,q5,fun _=>rfl,fun _=>rfl,q8,fun _=>trivial,fun _=>trivial,q11,fun _=>trivial,q13,q14,q15,q16,fun _=>trivial,fun _=>trivial,fun _=>trivial,fun _=>trivial⟩
  ·obtain rfl:=Option.some.inj ho
   clear hall ho
   refine wpOp_step rfl (fun K hK=>?_)
   go_simp
   exact hK _ _ ⟨_,_,_,_,_,_,_,_,_,_,_,_,_,_,_,_,_,_,_,_,_,rfl,hS,fun _=>trivial,q1,fun _=>trivial,fun _=>trivial,fun _=>trivial,q5,q6,q7,fun _=>rfl,fun _=>trivial,fun _=>trivial,q11,fun _=>trivial,q13,q14,q15,q16,fun _=>trivial,fun _=>trivial,fun _=>trivial,fun _=>trivial⟩
  ·obtain rfl:=Option.some.inj ho
   obtain rfl:=q8 (hall ⟨8,.data⟩ (by simp) rfl)
   clear hall ho
   refine wpOp_step rfl (fun K hK=>?_)
   go_simp
   refine Calls.mono (l01Next_c A n c g 3 v hS.i.d.s) ?_;rintro e w5 ⟨qq,rfl,_,_,hS5,hg5⟩
   go_simp
   exact hK _ _ ⟨_,_,_,_,_,_,_,_,_,_,_,_,_,_,_,_,_,_,_,_,_,rfl,hS.to hg5 ((hS.i.to hlo hlt hS5 hg5).s16 _),fun _=>trivial,q1,fun _=>trivial,fun _=>trivial,fun _=>trivial,q5,q6,q7,fun _=>rfl,fun _=>trivial,fun _=>trivial,q11,fun _=>trivial,q13,q14,q15,q16,fun _=>trivial,fun _=>trivial,fun _=>trivial,fun _=>trivial⟩
  ·obtain rfl:=Option.some.inj ho
   obtain rfl:=q7 (hall ⟨7,.data⟩ (by simp) rfl)
   have e9:fL 9=true:=hall ⟨9,.data⟩ (by simp) rfl
   obtain ⟨x,rfl⟩:=hS.i.q16 e9
   clear hall ho
   refine wpOp_step rfl (fun K hK=>?_)
   go_simp
   exact hK _ _ ⟨_,_,_,_,_,_,_,_,_,_,_,_,_,_,_,_,_,_,_,_,_,rfl,hS.same (hS.i.s17 _),fun _=>trivial,q1,fun _=>trivial,fun _=>trivial,fun _=>trivial,q5,q6,fun _=>rfl,q8,fun _=>trivial,fun _=>trivial,q11,fun _=>trivial,q13,q14,q15,q16,fun _=>trivial,fun _=>trivial,fun _=>trivial,fun _=>trivial⟩
  ·obtain rfl:=Option.some.inj ho
   clear hall ho
   refine wpOp_step rfl (fun K hK=>?_)
   go_simp
   exact hK _ _ ⟨_,_,_,_,_,_,_,_,_,_,_,_,_,_,_,_,_,_,_,_,_,rfl,hS,fun _=>trivial,q1,fun _=>trivial,fun _=>trivial,fun _=>trivial,q5,q6,q7,q8,fun _=>trivial,fun _=>trivial,fun _=>rfl,fun _=>trivial,q13,q14,q15,q16,fun _=>trivial,fun _=>trivial,fun _=>trivial,fun _=>trivial⟩
  ·obtain rfl:=Option.some.inj ho
   obtain rfl:=q11 (hall ⟨11,.data⟩ (by simp) rfl)
   clear hall ho
   refine wpOp_step rfl (fun K hK=>?_)
   go_simp
   refine Calls.mono (l33Release_c A n c g v hS.i.d.s) ?_;rintro e w5 ⟨r,B,d,rfl,hr,P5,hS5,hg5⟩
   have hvz:=hS.i.d.size
   have h26:fL 19=false:=by cases hh:fL 19 with | false=>rfl | true=>exact absurd (hS.i.q26 hh).1 (by rw [hf];simp)
   have h5:=hS.i.s19 h26 hlo (by omega) hlt hS5 hg5 (d:=d) ⟨hr.1,hr.2.1⟩ P5 (fun x h=>by have:=hV2.out x h;omega)
   go_simp
   exact hK _ _ ⟨_,_,_,_,_,_,_,_,_,_,_,_,_,_,_,_,_,_,_,_,_,rfl,hS.to hg5 h5,fun _=>trivial,q1,fun _=>trivial,fun _=>trivial,fun _=>trivial,q5,q6,q7,q8,fun _=>trivial,fun _=>trivial,fun _=>rfl,fun _=>trivial,q13,q14,q15,q16,fun _=>trivial,fun _=>trivial,fun _=>trivial,fun _=>trivial⟩
  ·obtain rfl:=Option.some.inj ho
   clear hall ho
   refine wpOp_step rfl (fun K hK=>?_)
   go_simp
   exact hK _ _ ⟨_,_,_,_,_,_,_,_,_,_,_,_,_,_,_,_,_,_,_,_,_,rfl,hS,fun _=>trivial,q1,fun _=>trivial,fun _=>trivial,fun _=>trivial,q5,q6,q7,q8,fun _=>trivial,fun _=>trivial,q11,fun _=>trivial,fun _=>rfl,q14,q15,q16,fun _=>trivial,fun _=>trivial,fun _=>trivial,fun _=>trivial⟩
  ·obtain rfl:=Option.some.inj ho
   clear hall ho
   refine wpOp_step rfl (fun K hK=>?_)
   go_simp
   exact hK _ _ ⟨_,_,_,_,_,_,_,_,_,_,_,_,_,_,_,_,_,_,_,_,_,rfl,hS,fun _=>trivial,q1,fun _=>trivial,fun _=>trivial,fun _=>trivial,q5,q6,q7,q8,fun _=>trivial,fun _=>trivial,q11,fun _=>trivial,q13,fun _=>rfl,q15,q16,fun _=>trivial,fun _=>trivial,fun _=>trivial,fun _=>trivial⟩
  ·obtain rfl:=Option.some.inj ho
   obtain rfl:=q14 (hall ⟨14,.data⟩ (by simp) rfl)
   clear hall ho
   refine wpOp_step rfl (fun K hK=>?_)
   go_simp
   exact hK _ _ ⟨_,_,_,_,_,_,_,_,_,_,_,_,_,_,_,_,_,_,_,_,_,rfl,hS,fun _=>trivial,q1,fun _=>trivial,fun _=>trivial,fun _=>trivial,q5,q6,q7,q8,fun _=>trivial,fun _=>trivial,q11,fun _=>trivial,q13,fun _=>rfl,fun _=>rfl,q16,fun _=>trivial,fun _=>trivial,fun _=>trivial,fun _=>trivial⟩
  ·obtain rfl:=Option.some.inj ho
   obtain rfl:=q15 (hall ⟨15,.data⟩ (by simp) rfl)
   clear hall ho
   refine wpOp_step rfl (fun K hK=>?_)
   go_simp
   exact hK _ _ ⟨_,_,_,_,_,_,_,_,_,_,_,_,_,_,_,_,_,_,_,_,_,rfl,hS,fun _=>trivial,q1,fun _=>trivial,fun _=>trivial,fun _=>trivial,q5,q6,q7,q8,fun _=>trivial,fun _=>trivial,q11,fun _=>trivial,q13,q14,fun _=>rfl,fun _=>rfl,fun _=>trivial,fun _=>trivial,fun _=>trivial,fun _=>trivial⟩
  ·obtain rfl:=Option.some.inj ho
   obtain rfl:=q13 (hall ⟨13,.data⟩ (by simp) rfl)
   obtain rfl:=q16 (hall ⟨16,.data⟩ (by simp) rfl)
   clear hall ho
   refine wpOp_step rfl (fun K hK=>?_)
   go_simp
   refine Calls.mono (l01Next_c A n c g _ v hS.i.d.s) ?_;rintro e w5 ⟨qq,rfl,_,_,hS5,hg5⟩
   go_simp
   exact hK _ _ ⟨_,_,_,_,_,_,_,_,_,_,_,_,_,_,_,_,_,_,_,_,_,rfl,hS.to hg5 ((hS.i.to hlo hlt hS5 hg5).s24 _),fun _=>trivial,q1,fun _=>trivial,fun _=>trivial,fun _=>trivial,q5,q6,q7,q8,fun _=>trivial,fun _=>trivial,q11,fun _=>trivial,fun _=>rfl,q14,q15,fun _=>rfl,fun _=>trivial,fun _=>trivial,fun _=>trivial,fun _=>trivial⟩
  ·obtain rfl:=Option.some.inj ho
   have e17:fL 17=true:=hall ⟨17,.data⟩ (by simp) rfl
   obtain ⟨x,rfl⟩:=hS.i.q24 e17
   clear hall ho
   refine wpOp_step rfl (fun K hK=>?_)
   go_simp
   exact hK _ _ ⟨_,_,_,_,_,_,_,_,_,_,_,_,_,_,_,_,_,_,_,_,_,rfl,hS.same (hS.i.s25 _),fun _=>trivial,q1,fun _=>trivial,fun _=>trivial,fun _=>trivial,q5,q6,q7,q8,fun _=>trivial,fun _=>trivial,q11,fun _=>trivial,q13,q14,q15,q16,fun _=>trivial,fun _=>trivial,fun _=>trivial,fun _=>trivial⟩
  ·obtain rfl:=Option.some.inj ho
   have e4:fL 4=true:=hall ⟨4,.data⟩ (by simp) rfl
   have e10:fL 10=true:=hall ⟨10,.data⟩ (by simp) rfl
   have e12:fL 12=true:=hall ⟨12,.data⟩ (by simp) rfl
   have e18:fL 18=true:=hall ⟨18,.data⟩ (by simp) rfl
   obtain ⟨rr,ti,hrr,hti,rfl⟩:=hS.qT e4
   have htz:ti.size ≤ 13:=(tit3_at hrr).elim fun y h=>by rw [hti] at h;cases h.1;exact h.2
   obtain ⟨x17,rfl⟩:=hS.i.q17 e10
   obtain ⟨r,B,d,rfl,hnl,P,hoff⟩:=hS.i.q19 e12
   obtain ⟨x25,rfl⟩:=hS.i.q25 e18
   have h6:=hS.i.s26 e12 (f:=⟨⟨ti,x17,r,x25⟩,B,d⟩) ⟨⟨htz,hnl.1,hnl.2⟩,P,hoff⟩ rfl
   clear hall ho
   refine wpOp_step rfl (fun K hK=>?_)
   unfold Rl.cells
   go_simp
   exact hK _ _ ⟨_,_,_,_,_,_,_,_,_,_,_,_,_,_,_,_,_,_,_,_,_,rfl,hS.same h6,fun _=>trivial,q1,fun _=>trivial,fun _=>trivial,fun _=>trivial,q5,q6,q7,q8,fun _=>trivial,fun _=>trivial,q11,fun _=>trivial,q13,q14,q15,q16,fun _=>trivial,fun _=>trivial,fun _=>trivial,fun _=>trivial⟩
  ·obtain rfl:=Option.some.inj ho
   clear hall ho
   refine wpOp_step rfl (fun K hK=>?_)
   go_simp
   exact hK _ _ ⟨_,_,_,_,_,_,_,_,_,_,_,_,_,_,_,_,_,_,_,_,_,rfl,hS.to (grown_alloc _ _) hS.i.s5,fun _=>trivial,q1,fun _=>trivial,fun _=>trivial,fun _=>trivial,q5,q6,q7,q8,fun _=>trivial,fun _=>trivial,q11,fun _=>trivial,q13,q14,q15,q16,fun _=>trivial,fun _=>trivial,fun _=>trivial,fun _=>trivial⟩
 rintro fL bA v ⟨v7,v8,v9,v10,v11,v12,v13,v14,v15,v16,v17,v18,v19,v20,v21,v22,v23,v24,v25,v26,v5,rfl,hS,q0,q1,q2,q3,q4,q5,q6,q7,q8,q9,q10,q11,q12,q13,q14,q15,q16,q17,q18,q19,q20⟩ hall
 simp only [Act.put,List.setIfInBounds_toArray,List.set_cons_zero,List.set_cons_succ]
 have e0:fL 0=true:=hall 0 (by omega)
 obtain rfl:=q1 (hall 1 (by omega))
 have e2:fL 2=true:=hall 2 (by omega)
 have e3:fL 3=true:=hall 3 (by omega)
 have e4:fL 4=true:=hall 4 (by omega)
 obtain rfl:=q5 (hall 5 (by omega))
 obtain rfl:=q6 (hall 6 (by omega))
 obtain rfl:=q7 (hall 7 (by omega))
 obtain rfl:=q8 (hall 8 (by omega))
 have e9:fL 9=true:=hall 9 (by omega)
 have e10:fL 10=true:=hall 10 (by omega)
 obtain rfl:=q11 (hall 11 (by omega))
 have e12:fL 12=true:=hall 12 (by omega)
 obtain rfl:=q13 (hall 13 (by omega))
 obtain rfl:=q14 (hall 14 (by omega))
 obtain rfl:=q15 (hall 15 (by omega))
 obtain rfl:=q16 (hall 16 (by omega))
 have e17:fL 17=true:=hall 17 (by omega)
 have e18:fL 18=true:=hall 18 (by omega)
 have e19:fL 19=true:=hall 19 (by omega)
 have e20:fL 20=true:=hall 20 (by omega)
 clear hall
 simp only [List.drop_succ_cons,List.drop_zero]
 obtain ⟨_,f,rfl,hf,h19⟩:=hS.i.q26 e19
 obtain ⟨be,rfl,Be,hbe⟩:=hS.i.q5 e20
 have hx:=hS.i.qx e20 e12
 have hz:=hS.i.qz e12
 have hbo:∀ b off,f.A=some ⟨b,off,none⟩→b ≠ be∧b ≠ w.heap.size:=fun b off e=>⟨hx be b off f.c f.e.r rfl (by rw [h19,e]),hz b off f.c f.e.r (by rw [h19,e])⟩
 have hfl:f.cells.length=20:=rfl
 have hfo:=En.one f.e f.A f.c
 have X0:=fun (v':World) (hg:v.grownBy v' (some be)) (hB:Blk v' be 35 f.cells.toArray)=>EnV.mk (A:=A) (n:=n) (c:=c) (g:=g) (w:=w) (V:=.slice Al es.length cl) (hf.off hg fun b off e=>(hbo b off e).1) (hS.i.d.new hg (by omega) (by omega)) (hE0.out.old hS.i.l hg (by omega)) (hS.i.z.src hg (by omega)) hB hbo
 clear hS h1 hw14 hg0 hx hz h19 hf hbo
 have hfc:Hid (f.e.cells f.A f.c=f.cells):=Lib.hid rfl
 replace X0:=Lib.hid X0
 rw [show f.e.cells f.A f.c=f.cells from rfl] at hfo
 generalize hfd:f.cells=fc at *
 replace hfd:=Lib.hid hfd
 go_wp2_with (refine wpList_store_part rfl 35 _ _ rfl be 0 fc rfl rfl Be (by rw [hfl];exact Nat.le_refl _) (by rw [hfl];kernel_rfl) hfo ?_;intro w2 hg2 D2;refine Hid.out ?_)
 refine Lib.hid ?_
 have X:EnV A n c g w lo (.slice Al es.length cl) es be f w2:=X0.out w2 hg2 (by
  have h:=fill_mid fc EnZ [] [] (by rw [hfl];rfl)
  simp only [List.nil_append,List.append_nil,List.length_nil] at h
  rw [← h]
  exact D2)
 clear X0 D2 hg2 Be hfo hfl hfd hfc
 go_upto_region 2 with fail
 go_cut [41] (fun s41 wx=>∃ (bv:Bool) (f:EnR),s41=.bool bv∧(bv=true→0 ≤ f.e.ba∧f.e.ba < es.length)∧EnV A n c g w lo (.slice Al es.length cl) es be f wx)
 case first =>
  have z19:w2.cell? ⟨be,19,none⟩=some (.int .i64 f.e.ba):=X.b.cell 19
  have HX:Hid (_=_):=Lib.hid (rfl:f.e.ba=f.e.ba)
  by_cases hb0:0 ≤ f.e.ba
  ·by_cases hb1:f.e.ba < es.length
   ·go_wp2_with fail
    refine (l01Next_c A n c g _ _ X.d.s).mono ?_;rintro e w3 ⟨x,rfl,_,_,hS,hg⟩
    replace X:=X.to hlo hlt hbe hS hg
    clear hS hg z19
    go_wp2_with fail
    go_meet
    case rel=>exact ⟨_,f,rfl,fun _=>⟨hb0,hb1⟩,X⟩
   ·go_wp2_with fail
    go_meet
    case rel=>exact ⟨false,f,rfl,nofun,X⟩
  ·go_wp2_with fail
   go_meet
   case rel=>exact ⟨false,f,rfl,nofun,X⟩
 case rest =>
  clear X
  obtain ⟨bv,f,rfl,hbv,X⟩:=hcut
  replace hbv:=Lib.hid hbv
  go_upto_if 41 with fail
  go_cut [6] (fun s6 wx=>∃ f:EnR,EnV A n c g w lo (.slice Al es.length cl) es be f wx)
  case first =>
   cases bv
   ·go_wp2_with fail
    go_meet
    case rel=>exact ⟨f,X⟩
   ·obtain ⟨hb0,hb1⟩:=hbv.out rfl
    obtain ⟨j,hj⟩:=Int.eq_ofNat_of_zero_le hb0
    have hjl:j < es.length:=by omega
    have z19:wc.cell? ⟨be,19,none⟩=some (.int .i64 (j:Int)):=by rw [← hj];exact X.b.cell 19
    obtain ⟨b,off,hA,hbB,hc⟩:=X.l.o.sl.rg (i:=j) (by simpa using hjl)
    subst hA
    simp only [List.getElem_map] at hc
    have hrr:wc.rangeAt b (off+j * 20+2) (es[j].e.r.cells es[j].A es[j].c):=range_mid (P:=[.string es[j].e.ti,.int .i64 es[j].e.ve]) (T:=[.int .i64 es[j].e.ba]) hc
    have hmem:=List.getElem_mem hjl
    have hfu:=X.e.2.1.ub
    have hrl:(es[j].e.r.cells es[j].A es[j].c).length=17:=rfl
    have hro:=Rl.one es[j].e.r es[j].A es[j].c
    have hou:=(hE0.out.i es[j] (List.getElem_mem hjl)).2.1.ub
    have Xa:=X.below ((Below.refl wc.heap.size wc).alloc (Nat.le_refl _) (.cells (es[j].e.r.cells es[j].A es[j].c).toArray 33))
    have Br:=Blk.new wc 33 (es[j].e.r.cells es[j].A es[j].c).toArray
    have hbr:be < wc.heap.size:=X.b.lt
    have HC:=Lib.hid (rfl:es[j].e.r.cells es[j].A es[j].c=es[j].e.r.cells es[j].A es[j].c)
    clear hc hbv hb0 hb1 X
    generalize hej:es[j]=ej at *
    obtain ⟨⟨ti,ve,r,ba⟩,B,d⟩:=ej
    simp only at *
    have hjn:(j:Int) < es.length:=by omega
    generalize hrc:r.cells B d=rc at *
    go_wp2_with (first | (refine wpList_load_mid rfl 33 _ rfl b (off+j * 20+2) rfl rc _ hrr Tryz.underlying33 rfl (by rw [hrl];kernel_rfl) ?_) | (refine wpList_store_new rfl _ _ rfl rc rfl rfl (by rw [hrl];kernel_rfl) (by rw [hrl];rfl) hro ?_) | fail)
    generalize wc.alloc (.cells rc.toArray 33)=w3 at *
    refine (l01Next_c A n c g _ _ Xa.d.s).mono ?_;rintro e w4 ⟨x,rfl,_,_,hS,hg⟩
    have X:=Xa.to hlo hlt hbe hS hg
    replace Br:=Br.src hg (by omega)
    clear hS hg Xa hrr hrl hro HC
    subst hrc
    have c15:w4.cell? ⟨wc.heap.size,15,none⟩=some (.int .i64 r.ey):=Br.cell 15
    have f15:=Br.frozen 15
    have hbl:=Br.lt
    have Br5:Blk (w4.setCell ⟨wc.heap.size,15,none⟩ (.int .i64 x)) wc.heap.size 33 (({r with ey:=x}:Rl).cells B d).toArray:=Br.set_ 15 _
    have hg5:=grown_one w4 wc.heap.size 15 (.int .i64 x)
    have X5:EnV A n c g w lo (.slice (some ⟨b,off,none⟩) es.length cl) es be f (w4.setCell ⟨wc.heap.size,15,none⟩ (.int .i64 x)) :=
     ⟨X.e.off hg5 (fun b' o' e=>by have:=hfu b' o' e;omega),X.d.new hg5 (by omega) (by omega),hE0.out.old X.l hg5 (by omega),X.z.src hg5 (by omega),X.b.src hg5 (by omega),X.o⟩
    clear X hg5 Br
    go_upto_region 5 with fail
    generalize w4.setCell ⟨wc.heap.size,15,none⟩ (.int .i64 x)=w5 at *
    clear c15 f15 hbl
    have hej:=X5.l.i _ hmem
    have hrl:((⟨r.fd,r.ft,r.nm,r.l,r.wd,r.lf,r.rt,r.lud,r.lut,r.hud,r.hut,r.lvd,r.lvt,r.hvd,r.hvt,x,r.bo⟩:Rl).cells B d).length=17:=rfl
    have hro:=Rl.one ⟨r.fd,r.ft,r.nm,r.l,r.wd,r.lf,r.rt,r.lud,r.lut,r.hud,r.hut,r.lvd,r.lvt,r.hvd,r.hvt,x,r.bo⟩ B d
    have hrr:=Br5.range
    have X9:=fun v' hg hB=>X5.put (v':=v') hE0.out hlt hbe hg (f':=⟨⟨f.e.ti,f.e.ve,⟨r.fd,r.ft,r.nm,r.l,r.wd,r.lf,r.rt,r.lud,r.lut,r.hud,r.hut,r.lvd,r.lvt,r.hvd,r.hvt,x,r.bo⟩,f.e.ba⟩,B,d⟩) hB ⟨⟨X5.e.1.1,hej.1.2⟩,hej.2⟩ (fun b' o' e=>⟨by have:=hou b' o' e;omega,by have:=hou b' o' e;omega⟩)
    have hfl:f.cells.length=20:=rfl
    have Bf:Blk w5 be 35 ([Value.string f.e.ti,.int .i64 f.e.ve] ++ f.e.r.cells f.A f.c ++ [Value.int .i64 f.e.ba]).toArray:=X5.b
    have hfr:(f.e.r.cells f.A f.c).length=17:=rfl
    have hX9:∀ v',w5.grownBy v' (some be)→Blk v' be 35 ([Value.string f.e.ti,.int .i64 f.e.ve] ++ (⟨r.fd,r.ft,r.nm,r.l,r.wd,r.lf,r.rt,r.lud,r.lut,r.hud,r.hut,r.lvd,r.lvt,r.hvd,r.hvt,x,r.bo⟩:Rl).cells B d ++ [Value.int .i64 f.e.ba]).toArray→EnV A n c g w lo (.slice (some ⟨b,off,none⟩) es.length cl) es be ⟨⟨f.e.ti,f.e.ve,⟨r.fd,r.ft,r.nm,r.l,r.wd,r.lf,r.rt,r.lud,r.lut,r.hud,r.hut,r.lvd,r.lvt,r.hvd,r.hvt,x,r.bo⟩,f.e.ba⟩,B,d⟩ v':=fun v' h1 h2=>X9 v' h1 h2
    replace hX9:=Lib.hid hX9
    clear X9 X5 hej Br5 hmem
    have hrR:Hid ((⟨r.fd,r.ft,r.nm,r.l,r.wd,r.lf,r.rt,r.lud,r.lut,r.hud,r.hut,r.lvd,r.lvt,r.hvd,r.hvt,x,r.bo⟩:Rl)=(⟨r.fd,r.ft,r.nm,r.l,r.wd,r.lf,r.rt,r.lud,r.lut,r.hud,r.hut,r.lvd,r.lvt,r.hvd,r.hvt,x,r.bo⟩:Rl)):=Lib.hid rfl
    generalize (⟨r.fd,r.ft,r.nm,r.l,r.wd,r.lf,r.rt,r.lud,r.lut,r.hud,r.hut,r.lvd,r.lvt,r.hvd,r.hvt,x,r.bo⟩:Rl)=r5 at *
    clear hrR
    generalize r5.cells B d=rc5 at *
    generalize f.e.r.cells f.A f.c=rf at *
    go_wp2_with (first | (refine wpList_load_mid rfl 33 _ rfl wc.heap.size 0 rfl rc5 _ hrr Tryz.underlying33 rfl (by rw [hrl];kernel_rfl) ?_) | (refine wpList_store_part rfl 33 _ _ rfl be 2 rc5 rfl rfl Bf (by simp;omega) (by rw [hrl];kernel_rfl) hro ?_;intro w6 hg6 D6;refine Hid.out ?_) | fail)
    refine Lib.hid ?_
    have h:=fill_mid rc5 rf [.string f.e.ti,.int .i64 f.e.ve] [.int .i64 f.e.ba] (by rw [hrl,hfr])
    simp only [List.length_cons,List.length_nil] at h
    rw [h] at D6
    have X6:=hX9.out w6 hg6 D6
    clear hX9 hg6 D6 h Bf
    go_wp2_with fail
    go_meet
    case rel=>exact ⟨_,X6⟩
  case rest =>
   clear X hbv
   obtain ⟨f,X⟩:=hcut
   go_wp2_with (go_at_call 44;refine (l01Next_c A n c g _ _ X.d.s).mono ?_;rintro e w5 ⟨k,rfl,_,_,hS,hg⟩;refine Hid.out ?_)
   refine Lib.hid ?_
   replace X:=X.to hlo hlt hbe hS hg
   clear hS hg
   go_upto_block 0 with fail
   go_cut [55,63,69] (fun s1 s2 s3 wx=>∃ f:EnR,EnV A n c g w lo (.slice Al es.length cl) es be f wx)
   case first =>
    have hfo:=X.e.1
    by_cases h0:k=0
    ·subst h0
     have X6:=X.below ((Below.refl w5.heap.size w5).alloc (Nat.le_refl _) (.cells tit4 9))
     have B6:=Blk.new w5 9 tit4
     have hg5:g < w5.heap.size:=X.d.s.lt
     clear X
     unfold tit4 at X6
     have B6':Blk (w5.alloc (.cells #[.string ⟨#[]⟩,.string ⟨#[86,111,108,116]⟩,.string ⟨#[97,98,99,100,101,102,103,104,105,106,107,108,109]⟩,.string ⟨#[102,108,111,119]⟩] 9)) w5.heap.size 9 tit4:=B6
     clear B6
     go_wp2_with fail
     refine (l01Next_c A n c g _ _ X6.d.s).mono ?_;rintro e v ⟨x,rfl,⟨xa,xb⟩,_,hS,hg⟩
     have X:=X6.to hlo hlt hbe hS hg
     replace B6':=B6'.src hg (by omega)
     clear hS hg X6
     obtain ⟨r,rfl⟩:=Int.eq_ofNat_of_zero_le xa
     obtain ⟨ti,hti,htz⟩:=tit4_at (r:=r) (by omega)
     have c6:v.cell? ⟨w5.heap.size,r,none⟩=some (.string ti):=B6'.cl r hti
     have hr4:(r:Int) < 4:=by omega
     clear B6' hti xa xb
     have z0:v.cell? ⟨be,0,none⟩=some (.string f.e.ti):=X.b.cell 0
     have g0:=X.b.frozen 0
     have X9:=X.put hE0.out hlt hbe (grown_one v be 0 (.string ti)) (f':=⟨⟨ti,f.e.ve,f.e.r,f.e.ba⟩,f.A,f.c⟩) (X.b.set_ 0 _) ⟨⟨htz,X.e.1.2⟩,X.e.2⟩ X.o
     go_wp2_with fail
     go_meet
     case rel=>exact ⟨_,X9⟩
    by_cases h1:k=1
    ·subst h1
     go_wp2_with (go_at_call 64;refine (pickB_n 0 1001 A n c g _ _ _ _ X.d.s (by simp) (by rfl) (by decide) (by decide)).mono ?_;rintro e w6 ⟨y,rfl,_,hS,hg⟩;refine Hid.out ?_)
     refine Lib.hid ?_
     replace X:=X.to hlo hlt hbe hS hg
     clear hS hg
     have z1:w6.cell? ⟨be,1,none⟩=some (.int .i64 f.e.ve):=X.b.cell 1
     have g1:=X.b.frozen 1
     have X9:=X.put hE0.out hlt hbe (grown_one w6 be 1 (.int .i64 y)) (f':=⟨⟨f.e.ti,y,f.e.r,f.e.ba⟩,f.A,f.c⟩) (X.b.set_ 1 _) X.e X.o
     go_wp2_with fail
     go_meet
     case rel=>exact ⟨_,X9⟩
    by_cases h2:k=2
    ·subst h2
     go_wp2_with (go_at_call 64;refine (pickB_n (-2) 13 A n c g _ _ _ _ X.d.s (by have:=hn'.out;simp;omega) (by rfl) (by decide) (by decide)).mono ?_;rintro e w6 ⟨y,rfl,_,hS,hg⟩;refine Hid.out ?_)
     refine Lib.hid ?_
     replace X:=X.to hlo hlt hbe hS hg
     clear hS hg
     have z19:w6.cell? ⟨be,19,none⟩=some (.int .i64 f.e.ba):=X.b.cell 19
     have g19:=X.b.frozen 19
     have X9:=X.put hE0.out hlt hbe (grown_one w6 be 19 (.int .i64 y)) (f':=⟨⟨f.e.ti,f.e.ve,f.e.r,y⟩,f.A,f.c⟩) (X.b.set_ 19 _) X.e X.o
     go_wp2_with fail
     go_meet
     case rel=>exact ⟨_,X9⟩
    have e0:(k == 0)=false:=by simpa using h0
    have e1:(k == 1)=false:=by simpa using h1
    have e2:(k == 2)=false:=by simpa using h2
    go_wp2_with fail
    go_meet
    case rel=>exact ⟨f,X⟩
   case rest =>
    clear X
    obtain ⟨f,X⟩:=hcut
    have hel:f.cells.length=20:=rfl
    have heo:=En.one f.e f.A f.c
    rw [show f.e.cells f.A f.c=f.cells from rfl] at heo
    have Bf:=X.b
    have B0:=X.z
    have P:=X.e.2.1
    have D:=X.d
    have HF:=X.e
    have hu:=hE0.out.n
    have hbw:w.heap.size < be:=hbe
    have hfw:=fun b off e=>(X.o b off e).2
    clear X
    generalize hrc:f.cells=ec at *
    replace hrc:=Lib.hid hrc
    replace HF:=Lib.hid HF
    have hr2:=Bf.range
    unfold EnZ at B0
    go_wp2_with (first | (refine wpList_load_mid rfl 35 _ rfl (be) 0 rfl (ec) _ hr2 Tryz.underlying35 rfl (by kernel_rfl) ?_) | (refine wpList_store_part rfl 35 _ _ rfl w.heap.size 0 ec rfl rfl B0 (by rw [hel];simp) (by rw [hel];kernel_rfl) heo ?_;intro w9 hg9 D9;refine Hid.out ?_))
    refine Lib.hid ?_
    have R9:Blk w9 w.heap.size 35 ec.toArray:=by
     have h:=fill_mid ec [Value.string ⟨#[]⟩,.int .i64 0,.int .i64 0,.int .i64 0,.string ⟨#[]⟩,.slice none 0 0,.int .i64 0,.int .i64 0,.int .i64 0,.int .i64 0,.int .i64 0,.int .i64 0,.int .i64 0,.int .i64 0,.int .i64 0,.int .i64 0,.int .i64 0,.int .i64 0,.int .i64 0,.int .i64 0] [] [] (by rw [hel];rfl)
     simp only [List.nil_append,List.append_nil,List.length_nil] at h
     rw [← h]
     exact D9
    have E9:=D.new hg9 hlt (Nat.le_refl _)
    clear D9 B0 hr2 P D
    go_wp2_with fail
    refine bodyPost_ret (res_cells (k:=4) (vs:=ec) Tryz.results38 rfl (aggEnD w9) (by rw [hel];exact szEnD w9) R9) rfl ⟨f,by rw [hrc.out],HF.out.off hg9 hfw,E9.s,E9.g⟩
end Go.Proofs.YtednjmldjbndhaaGreatDoor
