/- The reference's draw of an answer. Condition: the code has at most 4096 bytes; the exercise's lists are apart from the source. -/
import Derived.Lib.SliceRun
import Derived.Test.YtednjmldjbndhaaGreatKGr21
import Derived.Test.YtednjmldjbndhaaGreatKGr24
set_option linter.unusedSimpArgs false
set_option linter.unusedVariables false
set_option maxRecDepth 100000
set_option maxHeartbeats 8000000
namespace Go.Proofs.YtednjmldjbndhaaGreat
open Go.RowKit
structure MvN (w:World) (lo:Nat) (A:Option Addr) (l:List Move):Prop where
 s:Sl w w.heap.size 4 A (l.map Move.cells)
 nb:∀ b off,A=some ⟨b,off,none⟩→lo ≤ b
section
variable {w w' : World} {lo : Nat} {A : Option Addr} {l : List Move}
theorem MvN.keep_ (h:MvN w lo A l) (hsz:w.heap.size ≤ w'.heap.size) (hk:∀ b,b < w.heap.size→lo ≤ b→w'.heap[b]?=w.heap[b]?):MvN w' lo A l :=
 ⟨fun i x hx=>by
  obtain ⟨hl,b,off,rfl,hb,hc⟩:=h.s i x hx
  exact ⟨hl,b,off,rfl,by omega,fun j v hv=>(World.cell?_of_block (a:=⟨b,off+i * 4+j,none⟩) (hk b hb (h.nb b off rfl))).trans (hc j v hv)⟩,h.nb⟩
theorem MvN.src {g:Nat} (h:MvN w lo A l) (hg:w.grownBy w' (some g)) (hlo:g < lo):MvN w' lo A l:=h.keep_ hg.size fun b hb hlb=>hg.block b hb (fun e=>by cases e;omega)
theorem MvN.below (h:MvN w lo A l) (hb:Below w.heap.size w w'):MvN w' lo A l:=h.keep_ hb.size fun b hlt _=>hb.block b hlt
theorem MvN.alloc (h:MvN w lo A l) (o:Obj):MvN (w.alloc o) lo A l:=h.below ((Below.refl _ _).alloc (Nat.le_refl _) o)
theorem MvN.set {q j:Nat} (h:MvN w lo A l) (hq:q < lo) (u:Value):MvN (w.setCell ⟨q,j,none⟩ u) lo A l:=h.keep_ (by simp) fun b _ hlb=>Below.heap_setCell _ _ _ _ (by simp only;omega)
theorem MvN.take (h:MvN w lo A l) (m:Nat):MvN w lo A (l.take m):=⟨by rw [List.map_take];exact h.s.take m,h.nb⟩
theorem MvN.nil_:MvN w lo none []:=⟨Sl.nil_,nofun⟩
theorem MvN.drewN (h:MvN w lo A l) (m:Nat):MvN (w.drewN m) lo A l:=⟨h.s,h.nb⟩
theorem MvN.weak {lo':Nat} (h:MvN w lo A l) (hl:lo' ≤ lo):MvN w lo' A l:=⟨h.s,fun b off e=>Nat.le_trans hl (h.nb b off e)⟩
theorem MvN.ofOwn {base c' n':Nat} (h:Own w base 75 4 (.slice A n' c') (l.map Move.cells)) (hb:lo ≤ base):MvN w lo A l:=⟨h.sl,fun b off e=>by subst e;exact Nat.le_trans hb (h.ownGe b rfl)⟩
end
def DAn (A:Option Addr) (n c g:Nat) (w:World) (e:Ending) (w':World):Prop:=∃ (l:List Move) (A':Option Addr) (c':Nat) (a b:Int),e=.returned (.agg #[.slice A' l.length c',.int .i64 a,.int .i64 b])∧(l.length ≤ 100∧l.length ≤ c')∧MvN w' w.heap.size A' l∧Src w' A n c g∧w.grownBy w' (some g)
structure AnS (w:World) (A:Option Addr) (n c g base:Nat) (ex:Array Value) (u1 u2 u3:Value) (r1 r2 r3:List (List Value)) (b5 lo:Nat) (Am:Option Addr) (ml:List Move) (cm:Nat) (fa fb:Int) (v:World):Prop where
 s:Src v A n c g
 gr:w.grownBy v (some g)
 bx:Blk v w.heap.size 31 ex
 bn:Blk v (w.heap.size+1) 53 #[.slice none 0 0,.int .i64 0,.int .i64 0]
 b5_:Blk v b5 53 #[.slice Am ml.length cm,.int .i64 fa,.int .i64 fb]
 o1:Own v base 2 1 u1 r1
 o2:Own v base 2 1 u2 r2
 o3:Own v base 100 3 u3 r3
 m:MvN v lo Am ml
 ml:ml.length ≤ 100∧ml.length ≤ cm
 h5:w.heap.size+1 < b5∧b5 < lo
section
variable {w v v' : World} {A : Option Addr} {n c g base : Nat} {ex : Array Value} {u1 u2 u3 : Value} {r1 r2 r3 : List (List Value)} {b5 lo : Nat} {Am : Option Addr} {ml : List Move} {cm : Nat} {fa fb : Int}
theorem AnS.src (h:AnS w A n c g base ex u1 u2 u3 r1 r2 r3 b5 lo Am ml cm fa fb v) (hn:g < w.heap.size∧g < base) (hS:Src v' A n c g) (hg:v.grownBy v' (some g)):AnS w A n c g base ex u1 u2 u3 r1 r2 r3 b5 lo Am ml cm fa fb v' :=
 have h5:=h.h5
 ⟨hS,h.gr.trans hg,h.bx.src hg (by omega),h.bn.src hg (by omega),h.b5_.src hg (by omega),h.o1.src hg hn.2,h.o2.src hg hn.2,h.o3.src hg hn.2,h.m.src hg (by omega),h.ml,h.h5⟩
theorem AnS.below (h:AnS w A n c g base ex u1 u2 u3 r1 r2 r3 b5 lo Am ml cm fa fb v) (hb:Below v.heap.size v v'):AnS w A n c g base ex u1 u2 u3 r1 r2 r3 b5 lo Am ml cm fa fb v' :=
 ⟨h.s.below hb,h.gr.trans (grown_below hb),h.bx.below hb h.bx.lt,h.bn.below hb h.bn.lt,h.b5_.below hb h.b5_.lt,h.o1.below hb,h.o2.below hb,h.o3.below hb,h.m.below hb,h.ml,h.h5⟩
theorem AnS.alloc (h:AnS w A n c g base ex u1 u2 u3 r1 r2 r3 b5 lo Am ml cm fa fb v) (ob:Obj):AnS w A n c g base ex u1 u2 u3 r1 r2 r3 b5 lo Am ml cm fa fb (v.alloc ob):=h.below ((Below.refl _ _).alloc (Nat.le_refl _) ob)
theorem AnS.drew (h:AnS w A n c g base ex u1 u2 u3 r1 r2 r3 b5 lo Am ml cm fa fb v):AnS w A n c g base ex u1 u2 u3 r1 r2 r3 b5 lo Am ml cm fa fb v.drew :=
 ⟨h.s.keep fun _ _=>rfl,grown_drewN h.gr 1,h.bx.drewN 1,h.bn.drewN 1,h.b5_.drewN 1,h.o1.drewN 1,h.o2.drewN 1,h.o3.drewN 1,h.m.drewN 1,h.ml,h.h5⟩
theorem AnS.setG {Am':Option Addr} {ml':List Move} {cm':Nat} {fa' fb':Int} {j:Nat} {u:Value} (h:AnS w A n c g base ex u1 u2 u3 r1 r2 r3 b5 lo Am ml cm fa fb v) (hgw:g < w.heap.size) (hB:Blk (v.setCell ⟨b5,j,none⟩ u) b5 53 #[.slice Am' ml'.length cm',.int .i64 fa',.int .i64 fb']) (hM:MvN (v.setCell ⟨b5,j,none⟩ u) lo Am' ml') (hm:ml'.length ≤ 100∧ml'.length ≤ cm') :
  AnS w A n c g base ex u1 u2 u3 r1 r2 r3 b5 lo Am' ml' cm' fa' fb' (v.setCell ⟨b5,j,none⟩ u) :=
 have h5:=h.h5
 ⟨h.s.far (by simp only;omega),grown_far h.gr (by simp only;omega),h.bx.far (by simp only;omega) _,h.bn.far (by simp only;omega) _,hB,h.o1.farX h.b5_ (by decide) _ _,h.o2.farX h.b5_ (by decide) _ _,h.o3.farX h.b5_ (by decide) _ _,hM,hm,h.h5⟩
theorem AnS.setFig (h:AnS w A n c g base ex u1 u2 u3 r1 r2 r3 b5 lo Am ml cm fa fb v) (hgw:g < w.heap.size) (a b:Int):AnS w A n c g base ex u1 u2 u3 r1 r2 r3 b5 lo Am ml cm a b ((v.setCell ⟨b5,1,none⟩ (.int .i64 a)).setCell ⟨b5,2,none⟩ (.int .i64 b)) :=
 (h.setG (fa':=a) (fb':=fb) hgw (h.b5_.set_ 1 _) (h.m.set h.h5.2 _) h.ml).setG hgw ((h.b5_.set_ 1 _).set_ 2 _) ((h.m.set h.h5.2 _).set h.h5.2 _) h.ml
theorem AnS.setMv (h:AnS w A n c g base ex u1 u2 u3 r1 r2 r3 b5 lo Am ml cm fa fb v) (hgw:g < w.heap.size) {Am':Option Addr} {ml':List Move} {cm':Nat} (hM:MvN v lo Am' ml') (hm:ml'.length ≤ 100∧ml'.length ≤ cm'):AnS w A n c g base ex u1 u2 u3 r1 r2 r3 b5 lo Am' ml' cm' fa fb (v.setCell ⟨b5,0,none⟩ (.slice Am' ml'.length cm')) :=
 h.setG hgw (h.b5_.set_ 0 _) (hM.set h.h5.2 _) hm
end
theorem run_slice_to {P:Program} (W:World) (t e:TypeId) (k:Nat) (ht:P.underlying t=some (.slice e)) (hz:∀ w,(Go.sizeOf e).run P w=.ok k w) (A:Option Addr) (n cap hi:Nat) (h:hi ≤ cap) :
  (Instr.slice t (.slice A n cap) none (some (.int .i64 (hi:Int))) none).run P W=.ok (.slice A hi cap) W:=by
 have ht':P.underlying t=some (.slice (P.elem t)):=by simp [Program.elem,ht]
 have he:P.elem t=e:=by simp [Program.elem,ht]
 rw [run_slice_h W t _ _ _ ht' .i64 _ (by omega) (by omega),he,hz]
 have hA:A.map (·.add (0 * k))=A:=by cases A <;> simp [Addr.add]
 simp only [Result.andThen,sliced,hA,Nat.sub_zero,Int.toNat_natCast,ite_self]
theorem MvN.slAt {w w':World} {lo:Nat} {A:Option Addr} {l:List Move} {g:Nat} (h:MvN w lo A l) (hg:w.grownBy w' (some g)) (hlo:g < lo):Sl w' w.heap.size 4 A (l.map Move.cells) :=
 fun i x hx=>by
  obtain ⟨hl,b,off,rfl,hb,hc⟩:=h.s i x hx
  exact ⟨hl,b,off,rfl,hb,fun j v hv=>(World.cell?_of_block (a:=⟨b,off+i * 4+j,none⟩) (hg.block b hb (fun e=>by cases e;have:=h.nb _ off rfl;omega))).trans (hc j v hv)⟩
theorem grown_app {w v v':World} {g:Nat} {o:Option Nat} (h:w.grownBy v (some g)) (hg:v.grownBy v' o) (ho:∀ b,o=some b→w.heap.size ≤ b):w.grownBy v' (some g) :=
 ⟨hg.os.trans h.os,hg.tape.trans h.tape,hg.output.trans h.output,Nat.le_trans h.size hg.size,fun k hk hne=>(hg.block k (Nat.lt_of_lt_of_le hk h.size) (fun e=>by have:=ho k e.symm;omega)).trans (h.block k hk hne)⟩
structure A7S (A:Option Addr) (n c g b8:Nat) (w7:World) (fig:Array Value) (b43 b44 b45 b46 b47 b51 b52 b53 b54:Bool) (v43 v44 v45 v46 v47 v51 v52 v53 v54:Value) (v:World):Prop where
 s:Src v A n c g
 gr:w7.grownBy v (some g)
 bf:Blk v b8 51 fig
 ne:b8 ≠ g
 l43:b43=true→∃ q,v43=.slice (some ⟨q,0,none⟩) 6 6∧Blk v q 2 #[.int .i64 0,.int .i64 0,.int .i64 1,.int .i64 (-3),.int .i64 20,.int .i64 (-60)]∧q ≠ g
 l44:b44=true→∃ x:Int,v44=.int .i64 x
 l45:b45=true→∃ x:Int,v45=.int .i64 x
 l46:b46=true→∃ x:Int,v46=.int .i64 x
 l47:b47=true→∃ x:Int,v47=.int .i64 x
 l51:b51=true→∃ q,v51=.slice (some ⟨q,0,none⟩) 5 5∧Blk v q 2 #[.int .i64 0,.int .i64 0,.int .i64 0,.int .i64 1,.int .i64 (-1)]∧q ≠ g
 l52:b52=true→∃ x:Int,v52=.int .i64 x
 l53:b53=true→∃ x:Int,v53=.int .i64 x
 l54:b54=true→∃ x y:Int,v54=.agg #[.int .i64 x,.int .i64 y]
section
variable {A : Option Addr} {n c g b8 : Nat} {w7 v v' : World} {fig : Array Value} {b43 b44 b45 b46 b47 b51 b52 b53 b54 : Bool} {v43 v44 v45 v46 v47 v51 v52 v53 v54 : Value}
theorem A7S.start (hS:Src v A n c g) (hB:Blk v b8 51 fig) (hn:b8 ≠ g):A7S A n c g b8 v fig false false false false false false false false false v43 v44 v45 v46 v47 v51 v52 v53 v54 v.drew :=
 ⟨hS.keep fun _ _=>rfl,grown_drewN (World.grownBy.refl _ _) 1,hB.drewN 1,hn,nofun,nofun,nofun,nofun,nofun,nofun,nofun,nofun,nofun⟩
theorem A7S.dr (h:A7S A n c g b8 w7 fig b43 b44 b45 b46 b47 b51 b52 b53 b54 v43 v44 v45 v46 v47 v51 v52 v53 v54 v) (hS:Src v' A n c g) (hg:v.grownBy v' (some g)):A7S A n c g b8 w7 fig b43 b44 b45 b46 b47 b51 b52 b53 b54 v43 v44 v45 v46 v47 v51 v52 v53 v54 v' :=
 ⟨hS,h.gr.trans hg,h.bf.src hg h.ne,h.ne,fun e=>(by obtain ⟨q,r1,r2,r3⟩:=h.l43 e;exact ⟨q,r1,r2.src hg r3,r3⟩),h.l44,h.l45,h.l46,h.l47,fun e=>(by obtain ⟨q,r1,r2,r3⟩:=h.l51 e;exact ⟨q,r1,r2.src hg r3,r3⟩),h.l52,h.l53,h.l54⟩
theorem A7S.s43 (h:A7S A n c g b8 w7 fig b43 b44 b45 b46 b47 b51 b52 b53 b54 v43 v44 v45 v46 v47 v51 v52 v53 v54 v):A7S A n c g b8 w7 fig true b44 b45 b46 b47 b51 b52 b53 b54 (.slice (some ⟨v.heap.size,0,none⟩) 6 6) v44 v45 v46 v47 v51 v52 v53 v54 (v.alloc (.cells #[.int .i64 0,.int .i64 0,.int .i64 1,.int .i64 (-3),.int .i64 20,.int .i64 (-60)] 2)) :=
 have h':=h.dr (h.s.alloc (.cells #[.int .i64 0,.int .i64 0,.int .i64 1,.int .i64 (-3),.int .i64 20,.int .i64 (-60)] 2)) (grown_alloc _ _)
 { h' with l43:=fun _=>⟨_,rfl,Blk.new _ _ _,by have:=h.s.lt;omega⟩ }
theorem A7S.s51 (h:A7S A n c g b8 w7 fig b43 b44 b45 b46 b47 b51 b52 b53 b54 v43 v44 v45 v46 v47 v51 v52 v53 v54 v):A7S A n c g b8 w7 fig b43 b44 b45 b46 b47 true b52 b53 b54 v43 v44 v45 v46 v47 (.slice (some ⟨v.heap.size,0,none⟩) 5 5) v52 v53 v54 (v.alloc (.cells #[.int .i64 0,.int .i64 0,.int .i64 0,.int .i64 1,.int .i64 (-1)] 2)) :=
 have h':=h.dr (h.s.alloc (.cells #[.int .i64 0,.int .i64 0,.int .i64 0,.int .i64 1,.int .i64 (-1)] 2)) (grown_alloc _ _)
 { h' with l51:=fun _=>⟨_,rfl,Blk.new _ _ _,by have:=h.s.lt;omega⟩ }
end
structure A10S (A:Option Addr) (n c g:Nat) (w9:World) (Am:Option Addr) (ml:List Move) (cm:Nat) (b67 b68:Bool) (v67 v68:Value) (v:World):Prop where
 s:Src v A n c g
 gr:w9.grownBy v (some g)
 l67:b67=true→∃ r:Nat,v67=.int .i64 (r:Int)∧r ≤ ml.length
 l68:b68=true→∃ r:Nat,∃ mq:List Move,v68=.slice Am mq.length cm∧mq=ml.take r∧mq.length ≤ ml.length
structure A12S (A:Option Addr) (n c g:Nat) (w9:World) (rows:List (List Value)) (b72 b75 b79 b80 b81:Bool) (v72 v75 v79 v80 v81:Value) (v:World):Prop where
 s:Src v A n c g
 gr:w9.grownBy v (some g)
 gl:g < w9.heap.size
 q72:b72=true→b75=false→Own v w9.heap.size 75 4 v72 []
 q75:b75=true→b81=false→Own v w9.heap.size 75 4 v75 rows
 q79:b79=true→∃ m:Move,v79=m.agg
 q80:b80=true→b81=false→∃ (gb:Nat) (m:Move),v80=.slice (some ⟨gb,0,none⟩) 1 1∧Blk v gb 75 m.cells.toArray∧gb ≠ g∧(b72=true→b75=false→some gb ≠ v72.ownBlock)
 q81:b81=true→∃ m:Move,Own v w9.heap.size 75 4 v81 (rows ++ [m.cells])
 dd:(b81=true→b75=true∧b80=true)∧(b75=true→b72=true)
section
variable {A : Option Addr} {n c g : Nat} {w9 v v' : World} {rows : List (List Value)} {b72 b75 b79 b80 b81 : Bool} {v72 v75 v79 v80 v81 u : Value} {m : Move}
theorem A12S.start (hS:Src v A n c g):A12S A n c g v rows false false false false false v72 v75 v79 v80 v81 v.drew :=
 ⟨hS.keep fun _ _=>rfl,grown_drewN (World.grownBy.refl _ _) 1,hS.lt,nofun,nofun,nofun,nofun,nofun,⟨nofun,nofun⟩⟩
theorem A12S.dr (h:A12S A n c g w9 rows b72 b75 b79 b80 b81 v72 v75 v79 v80 v81 v) (hS:Src v' A n c g) (hg:v.grownBy v' (some g)):A12S A n c g w9 rows b72 b75 b79 b80 b81 v72 v75 v79 v80 v81 v' :=
 ⟨hS,h.gr.trans hg,h.gl,fun e e'=>(h.q72 e e').src hg h.gl,fun e e'=>(h.q75 e e').src hg h.gl,h.q79,fun e e'=>(by obtain ⟨gb,m,r1,r2,r3,r4⟩:=h.q80 e e';exact ⟨gb,m,r1,r2.src hg r3,r3,r4⟩),fun e=>(by obtain ⟨m,r⟩:=h.q81 e;exact ⟨m,r.src hg h.gl⟩),h.dd⟩
theorem A12S.s72 (h:A12S A n c g w9 rows b72 b75 b79 b80 b81 v72 v75 v79 v80 v81 v) (h72:b72=false):A12S A n c g w9 rows true b75 b79 b80 b81 (.slice (some ⟨v.heap.size,0,none⟩) 0 0) v75 v79 v80 v81 (v.alloc (.cells #[] 75)):=by
 have h75:b75=false:=by cases e:b75 with | false=>rfl | true=>have:=h.dd.2 e;rw [h72] at this;cases this
 have h81:b81=false:=by cases e:b81 with | false=>rfl | true=>have:=(h.dd.1 e).1;rw [h75] at this;cases this
 have h':=h.dr (h.s.alloc (.cells #[] 75)) (grown_alloc _ _)
 refine ⟨h'.s,h'.gr,h.gl,fun _ _=>Own.empty h.gr.size,h'.q75,h.q79,fun e e'=>?_,fun e=>(by rw [h81] at e;cases e),⟨h.dd.1,fun _=>rfl⟩⟩
 obtain ⟨gb,m,r1,r2,r3,_⟩:=h.q80 e e'
 refine ⟨gb,m,r1,r2.alloc _,r3,fun _ _=>?_⟩
 have:=r2.lt
 simp only [Value.ownBlock,ne_eq,Option.some.injEq]
 omega
theorem A12S.s80 (h:A12S A n c g w9 rows b72 b75 b79 b80 b81 v72 v75 v79 v80 v81 v) (h80:b80=false):A12S A n c g w9 rows b72 b75 b79 true b81 v72 v75 v79 (.slice (some ⟨v.heap.size,0,none⟩) 1 1) v81 (v.alloc (.cells m.cells.toArray 75)):=by
 have h81:b81=false:=by cases e:b81 with | false=>rfl | true=>have:=(h.dd.1 e).2;rw [h80] at this;cases this
 have h':=h.dr (h.s.alloc (.cells m.cells.toArray 75)) (grown_alloc _ _)
 exact ⟨h'.s,h'.gr,h.gl,h'.q72,h'.q75,h.q79,fun _ _=>⟨_,m,rfl,Blk.new _ _ _,by have:=h.s.lt;omega,fun e e'=>own_lt (h.q72 e e') (Nat.le_refl _)⟩,fun e=>(by rw [h81] at e;cases e),⟨fun e=>(by rw [h81] at e;cases e),h.dd.2⟩⟩
theorem A12S.s75 (h:A12S A n c g w9 rows b72 b75 b79 b80 b81 v72 v75 v79 v80 v81 v) (h75:b75=false) (h72:b72=true) (hO:Own v' w9.heap.size 75 4 u ([] ++ rows)) (hg:v.grownBy v' v72.ownBlock):A12S A n c g w9 rows b72 true b79 b80 b81 v72 u v79 v80 v81 v':=by
 have h81:b81=false:=by cases e:b81 with | false=>rfl | true=>have:=(h.dd.1 e).1;rw [h75] at this;cases this
 have ho:=(h.q72 h72 h75).ownGe
 refine ⟨h.s.grown hg (fun r hr=>Nat.lt_of_lt_of_le h.gl (ho r hr)),grown_app h.gr hg ho,h.gl,nofun,fun _ _=>hO,h.q79,fun e e'=>?_,fun e=>(by rw [h81] at e;cases e),⟨fun e=>(by rw [h81] at e;cases e),fun _=>h72⟩⟩
 obtain ⟨gb,m,r1,r2,r3,r4⟩:=h.q80 e e'
 exact ⟨gb,m,r1,(hg.block gb r2.lt (r4 h72 h75)).trans r2,r3,nofun⟩
theorem A12S.s81 (h:A12S A n c g w9 rows b72 b75 b79 b80 b81 v72 v75 v79 v80 v81 v) (h81:b81=false) (h75:b75=true) (h80:b80=true) (hO:Own v' w9.heap.size 75 4 u (rows ++ [m.cells])) (hg:v.grownBy v' v75.ownBlock):A12S A n c g w9 rows b72 b75 b79 b80 true v72 v75 v79 v80 u v' :=
 have ho:=(h.q75 h75 h81).ownGe
 ⟨h.s.grown hg (fun r hr=>Nat.lt_of_lt_of_le h.gl (ho r hr)),grown_app h.gr hg ho,h.gl,fun _ e=>(by rw [h75] at e;cases e),nofun,h.q79,nofun,fun _=>⟨m,hO⟩,⟨fun _=>⟨h75,h80⟩,h.dd.2⟩⟩
end
theorem l31DrawAnswer_c (A:Option Addr) (n c g:Nat) (w:World) (hS:Src w A n c g) (L:Int) (l1 l2:List Int) (l3:List Term) (A1 A2 A3:Option Addr) (c1 c2 c3 base:Nat) (p q r:Int) (hgb:g < base) (hO1:Own w base 2 1 (.slice A1 l1.length c1) (l1.map ic)) (hO2:Own w base 2 1 (.slice A2 l2.length c2) (l2.map ic)) (hO3:Own w base 100 3 (.slice A3 l3.length c3) (l3.map Term.cells)) (hl1:l1.length ≤ 100) (hl2:l2.length ≤ 100) (hl3:l3.length ≤ 100) :
  Calls Tryz.prog 42 #[.pointer (some ⟨g,0,none⟩),.agg #[.int .i64 L,.slice A1 l1.length c1,.slice A2 l2.length c2,.slice A3 l3.length c3,.int .i64 p,.int .i64 q,.int .i64 r]] w (DAn A n c g w):=by
 have hlt:=hS.lt
 have hG:=(grown_alloc (w:=w) (.cells #[.int .i64 L,.slice A1 l1.length c1,.slice A2 l2.length c2,.slice A3 l3.length c3,.int .i64 p,.int .i64 q,.int .i64 r] 31) (some g)).trans (grown_alloc (.cells #[.slice none 0 0,.int .i64 0,.int .i64 0] 53) (some g))
 have hS:=(hS.alloc (.cells #[.int .i64 L,.slice A1 l1.length c1,.slice A2 l2.length c2,.slice A3 l3.length c3,.int .i64 p,.int .i64 q,.int .i64 r] 31)).alloc (.cells #[.slice none 0 0,.int .i64 0,.int .i64 0] 53)
 have hO1:=(hO1.alloc (.cells #[.int .i64 L,.slice A1 l1.length c1,.slice A2 l2.length c2,.slice A3 l3.length c3,.int .i64 p,.int .i64 q,.int .i64 r] 31)).alloc (.cells #[.slice none 0 0,.int .i64 0,.int .i64 0] 53)
 have hO2:=(hO2.alloc (.cells #[.int .i64 L,.slice A1 l1.length c1,.slice A2 l2.length c2,.slice A3 l3.length c3,.int .i64 p,.int .i64 q,.int .i64 r] 31)).alloc (.cells #[.slice none 0 0,.int .i64 0,.int .i64 0] 53)
 have hO3:=(hO3.alloc (.cells #[.int .i64 L,.slice A1 l1.length c1,.slice A2 l2.length c2,.slice A3 l3.length c3,.int .i64 p,.int .i64 q,.int .i64 r] 31)).alloc (.cells #[.slice none 0 0,.int .i64 0,.int .i64 0] 53)
 have BX:=(Blk.new w 31 #[.int .i64 L,.slice A1 l1.length c1,.slice A2 l2.length c2,.slice A3 l3.length c3,.int .i64 p,.int .i64 q,.int .i64 r]).alloc (.cells #[.slice none 0 0,.int .i64 0,.int .i64 0] 53)
 have BN:=Blk.new' (w.alloc (.cells #[.int .i64 L,.slice A1 l1.length c1,.slice A2 l2.length c2,.slice A3 l3.length c3,.int .i64 p,.int .i64 q,.int .i64 r] 31)) 53 #[.slice none 0 0,.int .i64 0,.int .i64 0] (g:=w.heap.size+1) (by simp)
 have hz0:((w.alloc (.cells #[.int .i64 L,.slice A1 l1.length c1,.slice A2 l2.length c2,.slice A3 l3.length c3,.int .i64 p,.int .i64 q,.int .i64 r] 31)).alloc (.cells #[.slice none 0 0,.int .i64 0,.int .i64 0] 53)).heap.size=w.heap.size+1+1:=by simp
 unfold DAn
 go_enter Tryz.func42,Tryz.ntmps42
 go_wp2_with fail
 generalize (w.alloc (.cells #[.int .i64 L,.slice A1 l1.length c1,.slice A2 l2.length c2,.slice A3 l3.length c3,.int .i64 p,.int .i64 q,.int .i64 r] 31)).alloc (.cells #[.slice none 0 0,.int .i64 0,.int .i64 0] 53)=w0 at *
 refine (l02Draw_c A n c g _ hS).mono ?_;rintro e w1 ⟨fa,fb,rfl,_,_,hS,hg⟩
 have hz1:=hg.size
 have hO1:=hO1.src hg (by omega)
 have hO2:=hO2.src hg (by omega)
 have hO3:=hO3.src hg (by omega)
 have BX:=BX.src hg (by omega)
 have BN:=BN.src hg (by omega)
 have hG:=hG.trans hg
 clear hg
 have h1z:w.heap.size+1 < w1.heap.size:=by omega
 have hA0:AnS w A n c g base #[.int .i64 L,.slice A1 l1.length c1,.slice A2 l2.length c2,.slice A3 l3.length c3,.int .i64 p,.int .i64 q,.int .i64 r] (.slice A1 l1.length c1) (.slice A2 l2.length c2) (.slice A3 l3.length c3) (l1.map ic) (l2.map ic) (l3.map Term.cells) w1.heap.size (w1.heap.size+1) none [] 0 fa fb (w1.alloc (.cells #[.slice none 0 0,.int .i64 fa,.int .i64 fb] 53)) :=
  ⟨hS.alloc _,hG.trans (grown_alloc _ _),BX.alloc _,BN.alloc _,Blk.new' _ _ _ (by simp),hO1.alloc _,hO2.alloc _,hO3.alloc _,MvN.nil_,by simp,h1z,by simp⟩
 clear hS hG BX BN hO1 hO2 hO3 hz0 hz1
 have x0_:(w1.alloc (.cells #[.slice none 0 0,.int .i64 fa,.int .i64 fb] 53)).cell? ⟨w.heap.size,0,none⟩=some (.int .i64 L):=hA0.bx.cell 0
 have x1_:(w1.alloc (.cells #[.slice none 0 0,.int .i64 fa,.int .i64 fb] 53)).cell? ⟨w.heap.size,1,none⟩=some (.slice A1 l1.length c1):=hA0.bx.cell 1
 have x2_:(w1.alloc (.cells #[.slice none 0 0,.int .i64 fa,.int .i64 fb] 53)).cell? ⟨w.heap.size,2,none⟩=some (.slice A2 l2.length c2):=hA0.bx.cell 2
 have x3_:(w1.alloc (.cells #[.slice none 0 0,.int .i64 fa,.int .i64 fb] 53)).cell? ⟨w.heap.size,3,none⟩=some (.slice A3 l3.length c3):=hA0.bx.cell 3
 have x4_:(w1.alloc (.cells #[.slice none 0 0,.int .i64 fa,.int .i64 fb] 53)).cell? ⟨w.heap.size,4,none⟩=some (.int .i64 p):=hA0.bx.cell 4
 have x5_:(w1.alloc (.cells #[.slice none 0 0,.int .i64 fa,.int .i64 fb] 53)).cell? ⟨w.heap.size,5,none⟩=some (.int .i64 q):=hA0.bx.cell 5
 have x6_:(w1.alloc (.cells #[.slice none 0 0,.int .i64 fa,.int .i64 fb] 53)).cell? ⟨w.heap.size,6,none⟩=some (.int .i64 r):=hA0.bx.cell 6
 have hgg:g < w.heap.size∧g < base:=⟨hlt,hgb⟩
 have hz5:(w1.alloc (.cells #[.slice none 0 0,.int .i64 fa,.int .i64 fb] 53)).heap.size=w1.heap.size+1:=by simp
 go_wp2_with fail
 generalize w1.alloc (.cells #[.slice none 0 0,.int .i64 fa,.int .i64 fb] 53)=w2 at *
 generalize w1.heap.size=b5 at *
 have E:ExIn w2 A1 c1 l1 A2 c2 l2 A3 c3 l3:=⟨by omega,by omega,by omega,by simpa using hA0.o1.le_cap,by simpa using hA0.o2.le_cap,by simpa using hA0.o3.le_cap,hA0.o1.sl,hA0.o2.sl,hA0.o3.sl⟩
 have hpl:=planL_len L l1 l2 l3
 refine (specPlanFor_c L A1 c1 l1 A2 c2 l2 A3 c3 l3 _ E).mono ?_;rintro e w3 ⟨Ap,cp,rfl,hs,hn,hcp,hb⟩
 have hA:=hA0.below hb
 have hMp:MvN w3 (b5+1) Ap (planL L l1 l2 l3):=⟨hs,fun b off e=>by have:=hn b;have h2:¬ b < w2.heap.size:=fun hlt=>this hlt b off e rfl;omega⟩
 have hcl:(planL L l1 l2 l3).length ≤ 100∧(planL L l1 l2 l3).length ≤ cp:=⟨by omega,hcp⟩
 have hp60:(planL L l1 l2 l3).length ≤ 60:=by omega
 clear hs hn hcp hb E hA0 hpl hO1 hO2 hO3
 generalize planL L l1 l2 l3=pl at *
 generalize planCode L l1 l2 l3=pc at *
 by_cases h0:pc=0
 case' pos =>
  subst h0
  have hA4:=(hA.setMv hlt hMp hcl).setFig hlt fa fb
  have z0_:w3.cell? ⟨b5,0,none⟩=some (.slice none 0 0):=hA.b5_.cell 0
  have f0_:=hA.b5_.frozen 0
  have z1_:w3.cell? ⟨b5,1,none⟩=some (.int .i64 fa):=hA.b5_.cell 1
  have f1_:=hA.b5_.frozen 1
  have z2_:w3.cell? ⟨b5,2,none⟩=some (.int .i64 fb):=hA.b5_.cell 2
  have f2_:=hA.b5_.frozen 2
  have x0_:(((w3.setCell ⟨b5,0,none⟩ (.slice Ap pl.length cp)).setCell ⟨b5,1,none⟩ (.int .i64 fa)).setCell ⟨b5,2,none⟩ (.int .i64 fb)).cell? ⟨w.heap.size,0,none⟩=some (.int .i64 L):=hA4.bx.cell 0
  have x1_:(((w3.setCell ⟨b5,0,none⟩ (.slice Ap pl.length cp)).setCell ⟨b5,1,none⟩ (.int .i64 fa)).setCell ⟨b5,2,none⟩ (.int .i64 fb)).cell? ⟨w.heap.size,1,none⟩=some (.slice A1 l1.length c1):=hA4.bx.cell 1
  have x2_:(((w3.setCell ⟨b5,0,none⟩ (.slice Ap pl.length cp)).setCell ⟨b5,1,none⟩ (.int .i64 fa)).setCell ⟨b5,2,none⟩ (.int .i64 fb)).cell? ⟨w.heap.size,2,none⟩=some (.slice A2 l2.length c2):=hA4.bx.cell 2
  have x3_:(((w3.setCell ⟨b5,0,none⟩ (.slice Ap pl.length cp)).setCell ⟨b5,1,none⟩ (.int .i64 fa)).setCell ⟨b5,2,none⟩ (.int .i64 fb)).cell? ⟨w.heap.size,3,none⟩=some (.slice A3 l3.length c3):=hA4.bx.cell 3
  have x4_:(((w3.setCell ⟨b5,0,none⟩ (.slice Ap pl.length cp)).setCell ⟨b5,1,none⟩ (.int .i64 fa)).setCell ⟨b5,2,none⟩ (.int .i64 fb)).cell? ⟨w.heap.size,4,none⟩=some (.int .i64 p):=hA4.bx.cell 4
  have x5_:(((w3.setCell ⟨b5,0,none⟩ (.slice Ap pl.length cp)).setCell ⟨b5,1,none⟩ (.int .i64 fa)).setCell ⟨b5,2,none⟩ (.int .i64 fb)).cell? ⟨w.heap.size,5,none⟩=some (.int .i64 q):=hA4.bx.cell 5
  have x6_:(((w3.setCell ⟨b5,0,none⟩ (.slice Ap pl.length cp)).setCell ⟨b5,1,none⟩ (.int .i64 fa)).setCell ⟨b5,2,none⟩ (.int .i64 fb)).cell? ⟨w.heap.size,6,none⟩=some (.int .i64 r):=hA4.bx.cell 6
  have hz5':=hA.b5_.lt
  go_wp2_with fail
  generalize (((w3.setCell ⟨b5,0,none⟩ (.slice Ap pl.length cp)).setCell ⟨b5,1,none⟩ (.int .i64 fa)).setCell ⟨b5,2,none⟩ (.int .i64 fb))=v5 at *
  clear z0_ z1_ z2_ f0_ f1_ f2_ hz5' hA
  obtain ⟨Am,ml,cm,hA,hm60⟩:∃ (Am:Option Addr) (ml:List Move) (cm:Nat),AnS w A n c g base #[.int .i64 L,.slice A1 l1.length c1,.slice A2 l2.length c2,.slice A3 l3.length c3,.int .i64 p,.int .i64 q,.int .i64 r] (.slice A1 l1.length c1) (.slice A2 l2.length c2) (.slice A3 l3.length c3) (l1.map ic) (l2.map ic) (l3.map Term.cells) b5 (b5+1) Am ml cm fa fb v5∧ml.length ≤ 60:=⟨_,_,_,hA4,hp60⟩
  clear hA4
 case' neg =>
  have hp0:(pc == 0)=false:=by simpa using h0
  have x0_:w3.cell? ⟨w.heap.size,0,none⟩=some (.int .i64 L):=hA.bx.cell 0
  have x1_:w3.cell? ⟨w.heap.size,1,none⟩=some (.slice A1 l1.length c1):=hA.bx.cell 1
  have x2_:w3.cell? ⟨w.heap.size,2,none⟩=some (.slice A2 l2.length c2):=hA.bx.cell 2
  have x3_:w3.cell? ⟨w.heap.size,3,none⟩=some (.slice A3 l3.length c3):=hA.bx.cell 3
  have x4_:w3.cell? ⟨w.heap.size,4,none⟩=some (.int .i64 p):=hA.bx.cell 4
  have x5_:w3.cell? ⟨w.heap.size,5,none⟩=some (.int .i64 q):=hA.bx.cell 5
  have x6_:w3.cell? ⟨w.heap.size,6,none⟩=some (.int .i64 r):=hA.bx.cell 6
  go_wp2_with fail
  generalize w3=v5 at *
  obtain ⟨Am,ml,cm,hA,hm60⟩:∃ (Am:Option Addr) (ml:List Move) (cm:Nat),AnS w A n c g base #[.int .i64 L,.slice A1 l1.length c1,.slice A2 l2.length c2,.slice A3 l3.length c3,.int .i64 p,.int .i64 q,.int .i64 r] (.slice A1 l1.length c1) (.slice A2 l2.length c2) (.slice A3 l3.length c3) (l1.map ic) (l2.map ic) (l3.map Term.cells) b5 (b5+1) Am ml cm fa fb v5∧ml.length ≤ 60:=⟨_,_,_,hA,by simp⟩
 all_goals
  refine (specChainFigAny_c A3 c3 l3 _ (by omega) hA.o3.sl).mono ?_;rintro e w6 ⟨a2,b2,code,rfl,hb6⟩
  have hA:=hA.below hb6
  have hA8:=hA.alloc (.cells #[.int .i64 a2,.int .i64 b2] 51)
  have B8:=Blk.new w6 51 #[.int .i64 a2,.int .i64 b2]
  have hn8:w6.heap.size ≠ g:=by have:=hA.s.lt;omega
  clear hA hb6
  rcases Classical.em (code=0) with hc | hc
  case' inl =>
   subst hc
   go_wp2_with fail
   generalize w6.alloc (.cells #[.int .i64 a2,.int .i64 b2] 51)=w7 at *
   generalize w6.heap.size=b8 at *
   refine (l01Next_c A n c g _ _ hA8.s).mono ?_;rintro e w8 ⟨x,rfl,_,_,hS,hg⟩
   have hA:=hA8.src hgg hS hg
   have B8:=B8.src hg hn8
   clear hA8 hS hg
   by_cases hx:0 < x
   case' pos =>
    have hxd:decide (0 < x)=true:=decide_eq_true hx
    go_wp2_with fail
    refine wp_region_sink 16 (fun a0 fL bA v=>∃ v40 v41 v42 v43 v44 v45 v46 v47 v48 v49 v50 v51 v52 v53 v54 v55:Value,bA=(((((((((((((((a0.put (some 40) v40).put (some 41) v41).put (some 42) v42).put (some 43) v43).put (some 44) v44).put (some 45) v45).put (some 46) v46).put (some 47) v47).put (some 48) v48).put (some 49) v49).put (some 50) v50).put (some 51) v51).put (some 52) v52).put (some 53) v53).put (some 54) v54).put (some 55) v55∧(A7S A n c g b8 w8 #[.int .i64 a2,.int .i64 b2] (fL 3) (fL 4) (fL 5) (fL 6) (fL 7) (fL 11) (fL 12) (fL 13) (fL 14) v43 v44 v45 v46 v47 v51 v52 v53 v54 v)∧(fL 0=true→v40=.pointer (some ⟨b8,0,none⟩))∧(fL 1=true→v41=.int .i64 a2)∧(fL 2=true→v42=.pointer (some ⟨g,0,none⟩))∧(fL 3=true→True)∧(fL 4=true→True)∧(fL 5=true→True)∧(fL 6=true→True)∧(fL 7=true→True)∧(fL 8=true→v48=.pointer (some ⟨b8,1,none⟩))∧(fL 9=true→v49=.int .i64 b2)∧(fL 10=true→v50=.pointer (some ⟨g,0,none⟩))∧(fL 11=true→True)∧(fL 12=true→True)∧(fL 13=true→True)∧(fL 14=true→True)∧(fL 15=true→v55=.pointer (some ⟨b5,1,none⟩))) (by kernel_rfl) (by decide +kernel) ?_ ?_ ?_
    ·exact ⟨undef,undef,undef,undef,undef,undef,undef,undef,undef,undef,undef,undef,undef,undef,undef,undef,by simp only [Act.put,List.setIfInBounds_toArray,List.set_cons_zero,List.set_cons_succ],A7S.start hA.s B8 hn8,nofun,nofun,nofun,nofun,nofun,nofun,nofun,nofun,nofun,nofun,nofun,nofun,nofun,nofun,nofun,nofun⟩
    ·rintro fL bA v ⟨v40,v41,v42,v43,v44,v45,v46,v47,v48,v49,v50,v51,v52,v53,v54,v55,rfl,hS,q0,q1,q2,q3,q4,q5,q6,q7,q8,q9,q10,q11,q12,q13,q14,q15⟩ i hi hf o ho hall
     simp only [Act.put,List.setIfInBounds_toArray,List.set_cons_zero,List.set_cons_succ]
     have hn:i=0 ∨ i=1 ∨ i=2 ∨ i=3 ∨ i=4 ∨ i=5 ∨ i=6 ∨ i=7 ∨ i=8 ∨ i=9 ∨ i=10 ∨ i=11 ∨ i=12 ∨ i=13 ∨ i=14 ∨ i=15:=by omega
     clear hi
     rcases hn with rfl | rfl | rfl | rfl | rfl | rfl | rfl | rfl | rfl | rfl | rfl | rfl | rfl | rfl | rfl | rfl
     ·obtain rfl:=Option.some.inj ho
      clear hall ho
      refine wpOp_step rfl (fun K hK=>?_)
      go_simp
      exact hK _ _ ⟨_,_,_,_,_,_,_,_,_,_,_,_,_,_,_,_,rfl,hS,fun _=>rfl,q1,q2,fun _=>trivial,fun _=>trivial,fun _=>trivial,fun _=>trivial,fun _=>trivial,q8,q9,q10,fun _=>trivial,fun _=>trivial,fun _=>trivial,fun _=>trivial,q15⟩
     ·obtain rfl:=Option.some.inj ho
      obtain rfl:=q0 (hall ⟨0,.data⟩ (by simp) rfl)
      have y0:v.cell? ⟨b8,0,none⟩=some (.int .i64 a2):=hS.bf.cell 0
      clear hall ho
      refine wpOp_step rfl (fun K hK=>?_)
      go_simp
      exact hK _ _ ⟨_,_,_,_,_,_,_,_,_,_,_,_,_,_,_,_,rfl,hS,fun _=>rfl,fun _=>rfl,q2,fun _=>trivial,fun _=>trivial,fun _=>trivial,fun _=>trivial,fun _=>trivial,q8,q9,q10,fun _=>trivial,fun _=>trivial,fun _=>trivial,fun _=>trivial,q15⟩
     ·obtain rfl:=Option.some.inj ho
      clear hall ho
      refine wpOp_step rfl (fun K hK=>?_)
      go_simp
      exact hK _ _ ⟨_,_,_,_,_,_,_,_,_,_,_,_,_,_,_,_,rfl,hS,q0,q1,fun _=>rfl,fun _=>trivial,fun _=>trivial,fun _=>trivial,fun _=>trivial,fun _=>trivial,q8,q9,q10,fun _=>trivial,fun _=>trivial,fun _=>trivial,fun _=>trivial,q15⟩
     ·obtain rfl:=Option.some.inj ho
      clear hall ho
      refine wpOp_step rfl (fun K hK=>?_)
      go_simp
      exact hK _ _ ⟨_,_,_,_,_,_,_,_,_,_,_,_,_,_,_,_,rfl,hS.s43,q0,q1,q2,fun _=>trivial,fun _=>trivial,fun _=>trivial,fun _=>trivial,fun _=>trivial,q8,q9,q10,fun _=>trivial,fun _=>trivial,fun _=>trivial,fun _=>trivial,q15⟩
     ·obtain rfl:=Option.some.inj ho
      obtain rfl:=q2 (hall ⟨2,.data⟩ (by simp) rfl)
      have e3:fL 3=true:=hall ⟨3,.data⟩ (by simp) rfl
      obtain ⟨qa,rfl,hB9,hqa⟩:=hS.l43 e3
      clear hall ho
      refine wpOp_step rfl (fun K hK=>?_)
      go_simp
      refine Calls.mono (l01Pick_c A n c g qa _ 6 6 v hS.s hB9 hqa (by intro v hv;simp only [List.mem_cons,List.not_mem_nil,or_false] at hv;rcases hv with rfl | rfl | rfl | rfl | rfl | rfl;all_goals exact ⟨_,rfl,by omega,by omega⟩) rfl (by decide) (by decide)) ?_;rintro e w9 ⟨ya,rfl,_,hS9,hg9⟩
      go_simp
      have ha:=hS.dr hS9 hg9
      exact hK _ _ ⟨_,_,_,_,_,_,_,_,_,_,_,_,_,_,_,_,rfl,{ ha with l44:=fun _=>⟨ya,rfl⟩ },q0,q1,fun _=>rfl,fun _=>trivial,fun _=>trivial,fun _=>trivial,fun _=>trivial,fun _=>trivial,q8,q9,q10,fun _=>trivial,fun _=>trivial,fun _=>trivial,fun _=>trivial,q15⟩
     ·obtain rfl:=Option.some.inj ho
      obtain rfl:=q1 (hall ⟨1,.data⟩ (by simp) rfl)
      have e4:fL 4=true:=hall ⟨4,.data⟩ (by simp) rfl
      obtain ⟨ya,rfl⟩:=hS.l44 e4
      clear hall ho
      refine wpOp_step rfl (fun K hK=>?_)
      go_simp
      exact hK _ _ ⟨_,_,_,_,_,_,_,_,_,_,_,_,_,_,_,_,rfl,{ hS with l45:=fun _=>⟨_,rfl⟩ },q0,fun _=>rfl,q2,fun _=>trivial,fun _=>trivial,fun _=>trivial,fun _=>trivial,fun _=>trivial,q8,q9,q10,fun _=>trivial,fun _=>trivial,fun _=>trivial,fun _=>trivial,q15⟩
     ·obtain rfl:=Option.some.inj ho
      have e5:fL 5=true:=hall ⟨5,.data⟩ (by simp) rfl
      obtain ⟨ya,rfl⟩:=hS.l45 e5
      clear hall ho
      rcases Int.lt_trichotomy 9999 ya with h | rfl | h
      all_goals
       refine wpOp_step rfl (fun K hK=>?_)
       (try have h2:¬ ya < 9999:=by omega)
       (try have h3:¬ 9999 < ya:=by omega)
       go_simp
       exact hK _ _ ⟨_,_,_,_,_,_,_,_,_,_,_,_,_,_,_,_,rfl,{ hS with l46:=fun _=>⟨_,rfl⟩ },q0,q1,q2,fun _=>trivial,fun _=>trivial,fun _=>trivial,fun _=>trivial,fun _=>trivial,q8,q9,q10,fun _=>trivial,fun _=>trivial,fun _=>trivial,fun _=>trivial,q15⟩
     ·obtain rfl:=Option.some.inj ho
      have e6:fL 6=true:=hall ⟨6,.data⟩ (by simp) rfl
      obtain ⟨ya,rfl⟩:=hS.l46 e6
      clear hall ho
      rcases Int.lt_trichotomy 1000 ya with h | rfl | h
      all_goals
       refine wpOp_step rfl (fun K hK=>?_)
       (try have h2:¬ ya < 1000:=by omega)
       (try have h3:¬ 1000 < ya:=by omega)
       go_simp
       exact hK _ _ ⟨_,_,_,_,_,_,_,_,_,_,_,_,_,_,_,_,rfl,{ hS with l47:=fun _=>⟨_,rfl⟩ },q0,q1,q2,fun _=>trivial,fun _=>trivial,fun _=>trivial,fun _=>trivial,fun _=>trivial,q8,q9,q10,fun _=>trivial,fun _=>trivial,fun _=>trivial,fun _=>trivial,q15⟩
     ·obtain rfl:=Option.some.inj ho
      clear hall ho
      refine wpOp_step rfl (fun K hK=>?_)
      go_simp
      exact hK _ _ ⟨_,_,_,_,_,_,_,_,_,_,_,_,_,_,_,_,rfl,hS,q0,q1,q2,fun _=>trivial,fun _=>trivial,fun _=>trivial,fun _=>trivial,fun _=>trivial,fun _=>rfl,q9,q10,fun _=>trivial,fun _=>trivial,fun _=>trivial,fun _=>trivial,q15⟩
     ·obtain rfl:=Option.some.inj ho
      obtain rfl:=q8 (hall ⟨8,.data⟩ (by simp) rfl)
      have y0:v.cell? ⟨b8,1,none⟩=some (.int .i64 b2):=hS.bf.cell 1
      clear hall ho
      refine wpOp_step rfl (fun K hK=>?_)
      go_simp
      exact hK _ _ ⟨_,_,_,_,_,_,_,_,_,_,_,_,_,_,_,_,rfl,hS,q0,q1,q2,fun _=>trivial,fun _=>trivial,fun _=>trivial,fun _=>trivial,fun _=>trivial,fun _=>rfl,fun _=>rfl,q10,fun _=>trivial,fun _=>trivial,fun _=>trivial,fun _=>trivial,q15⟩
     ·obtain rfl:=Option.some.inj ho
      clear hall ho
      refine wpOp_step rfl (fun K hK=>?_)
      go_simp
      exact hK _ _ ⟨_,_,_,_,_,_,_,_,_,_,_,_,_,_,_,_,rfl,hS,q0,q1,q2,fun _=>trivial,fun _=>trivial,fun _=>trivial,fun _=>trivial,fun _=>trivial,q8,q9,fun _=>rfl,fun _=>trivial,fun _=>trivial,fun _=>trivial,fun _=>trivial,q15⟩
     ·obtain rfl:=Option.some.inj ho
      clear hall ho
      refine wpOp_step rfl (fun K hK=>?_)
      go_simp
      exact hK _ _ ⟨_,_,_,_,_,_,_,_,_,_,_,_,_,_,_,_,rfl,hS.s51,q0,q1,q2,fun _=>trivial,fun _=>trivial,fun _=>trivial,fun _=>trivial,fun _=>trivial,q8,q9,q10,fun _=>trivial,fun _=>trivial,fun _=>trivial,fun _=>trivial,q15⟩
     ·obtain rfl:=Option.some.inj ho
      obtain rfl:=q10 (hall ⟨10,.data⟩ (by simp) rfl)
      have e11:fL 11=true:=hall ⟨11,.data⟩ (by simp) rfl
      obtain ⟨qa,rfl,hB9,hqa⟩:=hS.l51 e11
      clear hall ho
      refine wpOp_step rfl (fun K hK=>?_)
      go_simp
      refine Calls.mono (l01Pick_c A n c g qa _ 5 5 v hS.s hB9 hqa (by intro v hv;simp only [List.mem_cons,List.not_mem_nil,or_false] at hv;rcases hv with rfl | rfl | rfl | rfl | rfl;all_goals exact ⟨_,rfl,by omega,by omega⟩) rfl (by decide) (by decide)) ?_;rintro e w9 ⟨ya,rfl,_,hS9,hg9⟩
      go_simp
      have ha:=hS.dr hS9 hg9
      exact hK _ _ ⟨_,_,_,_,_,_,_,_,_,_,_,_,_,_,_,_,rfl,{ ha with l52:=fun _=>⟨ya,rfl⟩ },q0,q1,q2,fun _=>trivial,fun _=>trivial,fun _=>trivial,fun _=>trivial,fun _=>trivial,q8,q9,fun _=>rfl,fun _=>trivial,fun _=>trivial,fun _=>trivial,fun _=>trivial,q15⟩
     ·obtain rfl:=Option.some.inj ho
      obtain rfl:=q9 (hall ⟨9,.data⟩ (by simp) rfl)
      have e12:fL 12=true:=hall ⟨12,.data⟩ (by simp) rfl
      obtain ⟨ya,rfl⟩:=hS.l52 e12
      clear hall ho
      refine wpOp_step rfl (fun K hK=>?_)
      go_simp
      exact hK _ _ ⟨_,_,_,_,_,_,_,_,_,_,_,_,_,_,_,_,rfl,{ hS with l53:=fun _=>⟨_,rfl⟩ },q0,q1,q2,fun _=>trivial,fun _=>trivial,fun _=>trivial,fun _=>trivial,fun _=>trivial,q8,fun _=>rfl,q10,fun _=>trivial,fun _=>trivial,fun _=>trivial,fun _=>trivial,q15⟩
     ·obtain rfl:=Option.some.inj ho
      have e7:fL 7=true:=hall ⟨7,.data⟩ (by simp) rfl
      have e13:fL 13=true:=hall ⟨13,.data⟩ (by simp) rfl
      obtain ⟨ya,rfl⟩:=hS.l47 e7
      obtain ⟨za,rfl⟩:=hS.l53 e13
      clear hall ho
      refine wpOp_step rfl (fun K hK=>?_)
      go_simp
      exact hK _ _ ⟨_,_,_,_,_,_,_,_,_,_,_,_,_,_,_,_,rfl,{ hS with l54:=fun _=>⟨_,_,rfl⟩ },q0,q1,q2,fun _=>trivial,fun _=>trivial,fun _=>trivial,fun _=>trivial,fun _=>trivial,q8,q9,q10,fun _=>trivial,fun _=>trivial,fun _=>trivial,fun _=>trivial,q15⟩
     ·obtain rfl:=Option.some.inj ho
      clear hall ho
      refine wpOp_step rfl (fun K hK=>?_)
      go_simp
      exact hK _ _ ⟨_,_,_,_,_,_,_,_,_,_,_,_,_,_,_,_,rfl,hS,q0,q1,q2,fun _=>trivial,fun _=>trivial,fun _=>trivial,fun _=>trivial,fun _=>trivial,q8,q9,q10,fun _=>trivial,fun _=>trivial,fun _=>trivial,fun _=>trivial,fun _=>rfl⟩
    rintro fL bA v ⟨v40,v41,v42,v43,v44,v45,v46,v47,v48,v49,v50,v51,v52,v53,v54,v55,rfl,hS,q0,q1,q2,q3,q4,q5,q6,q7,q8,q9,q10,q11,q12,q13,q14,q15⟩ hall
    simp only [Act.put,List.setIfInBounds_toArray,List.set_cons_zero,List.set_cons_succ]
    obtain rfl:=q0 (hall 0 (by omega))
    obtain rfl:=q1 (hall 1 (by omega))
    obtain rfl:=q2 (hall 2 (by omega))
    have e3:fL 3=true:=hall 3 (by omega)
    have e4:fL 4=true:=hall 4 (by omega)
    have e5:fL 5=true:=hall 5 (by omega)
    have e6:fL 6=true:=hall 6 (by omega)
    have e7:fL 7=true:=hall 7 (by omega)
    obtain rfl:=q8 (hall 8 (by omega))
    obtain rfl:=q9 (hall 9 (by omega))
    obtain rfl:=q10 (hall 10 (by omega))
    have e11:fL 11=true:=hall 11 (by omega)
    have e12:fL 12=true:=hall 12 (by omega)
    have e13:fL 13=true:=hall 13 (by omega)
    have e14:fL 14=true:=hall 14 (by omega)
    obtain rfl:=q15 (hall 15 (by omega))
    clear hall
    simp only [List.drop_succ_cons,List.drop_zero]
    obtain ⟨x9,y9,rfl⟩:=hS.l54 e14
    have hA:=hA.src hgg hS.s hS.gr
    have hA9:=hA.setFig hlt x9 y9
    have z1_:v.cell? ⟨b5,1,none⟩=some (.int .i64 fa):=hA.b5_.cell 1
    have z2_:v.cell? ⟨b5,2,none⟩=some (.int .i64 fb):=hA.b5_.cell 2
    have f1_:=hA.b5_.frozen 1
    have f2_:=hA.b5_.frozen 2
    have hz5':=hA.b5_.lt
    go_wp2_with fail
    generalize (v.setCell ⟨b5,1,none⟩ (.int .i64 x9)).setCell ⟨b5,2,none⟩ (.int .i64 y9)=v9 at *
    clear hA hS z1_ z2_ f1_ f2_ hz5' e3 e4 e5 e6 e7 e11 e12 e13 e14
    obtain ⟨fa9,fb9,hA⟩:∃ fa9 fb9:Int,AnS w A n c g base #[.int .i64 L,.slice A1 l1.length c1,.slice A2 l2.length c2,.slice A3 l3.length c3,.int .i64 p,.int .i64 q,.int .i64 r] (.slice A1 l1.length c1) (.slice A2 l2.length c2) (.slice A3 l3.length c3) (l1.map ic) (l2.map ic) (l3.map Term.cells) b5 (b5+1) Am ml cm fa9 fb9 v9:=⟨_,_,hA9⟩
    clear hA9
   case' neg =>
    have hxd:decide (0 < x)=false:=decide_eq_false hx
    go_wp2_with fail
    generalize w8=v9 at *
    obtain ⟨fa9,fb9,hA⟩:∃ fa9 fb9:Int,AnS w A n c g base #[.int .i64 L,.slice A1 l1.length c1,.slice A2 l2.length c2,.slice A3 l3.length c3,.int .i64 p,.int .i64 q,.int .i64 r] (.slice A1 l1.length c1) (.slice A2 l2.length c2) (.slice A3 l3.length c3) (l1.map ic) (l2.map ic) (l3.map Term.cells) b5 (b5+1) Am ml cm fa9 fb9 v9:=⟨_,_,hA⟩
  case' inr =>
   have hcd:(code == 0)=false:=by simpa using hc
   go_wp2_with fail
   generalize w6.alloc (.cells #[.int .i64 a2,.int .i64 b2] 51)=v9 at *
   generalize w6.heap.size=b8 at *
   obtain ⟨fa9,fb9,hA⟩:∃ fa9 fb9:Int,AnS w A n c g base #[.int .i64 L,.slice A1 l1.length c1,.slice A2 l2.length c2,.slice A3 l3.length c3,.int .i64 p,.int .i64 q,.int .i64 r] (.slice A1 l1.length c1) (.slice A2 l2.length c2) (.slice A3 l3.length c3) (l1.map ic) (l2.map ic) (l3.map Term.cells) b5 (b5+1) Am ml cm fa9 fb9 v9:=⟨_,_,hA8⟩
   clear hA8
  all_goals
   refine (l01Next_c A n c g _ _ hA.s).mono ?_;rintro e w10 ⟨q,rfl,_,_,hS,hg⟩
   have hA:=hA.src hgg hS hg
   clear hS hg
   rcases Classical.em (q=0) with q0 | q0
   case' inl =>
    subst q0
    have hml:=hA.ml
    have hmm:=hA.m
    have hw66:IntKind.i64.wrap ((ml.length:Int)+1)=ml.length+1:=IntWalk.i64_in _ (by omega)
    have hrun:Hid (∀ (k:Nat) W,k ≤ cm→(Instr.slice 49 (.slice Am ml.length cm) none (some (.int .i64 (k:Int))) none).run Tryz.prog W=.ok (.slice Am k cm) W):=Lib.hid (fun k W hk=>run_slice_to W 49 75 4 Tryz.underlying49 (fun _=>by kernel_rfl) Am ml.length cm k hk)
    go_wp2_with fail
    refine wp_region_sink 10 (fun a0 fL bA v=>∃ v60 v61 v62 v63 v64 v65 v66 v67 v68 v69:Value,bA=(((((((((a0.put (some 60) v60).put (some 61) v61).put (some 62) v62).put (some 63) v63).put (some 64) v64).put (some 65) v65).put (some 66) v66).put (some 67) v67).put (some 68) v68).put (some 69) v69∧(A10S A n c g w10 Am ml cm (fL 7) (fL 8) v67 v68 v)∧(fL 0=true→v60=.pointer (some ⟨b5,0,none⟩))∧(fL 1=true→v61=.slice Am ml.length cm)∧(fL 2=true→v62=.pointer (some ⟨g,0,none⟩))∧(fL 3=true→v63=.pointer (some ⟨b5,0,none⟩))∧(fL 4=true→v64=.slice Am ml.length cm)∧(fL 5=true→v65=.int .i64 ml.length)∧(fL 6=true→v66=.int .i64 (ml.length+1))∧(fL 7=true→True)∧(fL 8=true→True)∧(fL 9=true→v69=.pointer (some ⟨b5,0,none⟩))) (by kernel_rfl) (by decide +kernel) ?_ ?_ ?_
    ·exact ⟨undef,undef,undef,undef,undef,undef,undef,undef,undef,undef,by simp only [Act.put,List.setIfInBounds_toArray,List.set_cons_zero,List.set_cons_succ],⟨hA.s.keep fun _ _=>rfl,grown_drewN (World.grownBy.refl _ _) 1,nofun,nofun⟩,nofun,nofun,nofun,nofun,nofun,nofun,nofun,nofun,nofun,nofun⟩
    ·rintro fL bA v ⟨v60,v61,v62,v63,v64,v65,v66,v67,v68,v69,rfl,hS,q0,q1,q2,q3,q4,q5,q6,q7,q8,q9⟩ i hi hf o ho hall
     simp only [Act.put,List.setIfInBounds_toArray,List.set_cons_zero,List.set_cons_succ]
     have hn:i=0 ∨ i=1 ∨ i=2 ∨ i=3 ∨ i=4 ∨ i=5 ∨ i=6 ∨ i=7 ∨ i=8 ∨ i=9:=by omega
     clear hi
     rcases hn with rfl | rfl | rfl | rfl | rfl | rfl | rfl | rfl | rfl | rfl
     ·obtain rfl:=Option.some.inj ho
      clear hall ho
      refine wpOp_step rfl (fun K hK=>?_)
      go_simp
      exact hK _ _ ⟨_,_,_,_,_,_,_,_,_,_,rfl,hS,fun _=>rfl,q1,q2,q3,q4,q5,q6,fun _=>trivial,fun _=>trivial,q9⟩
     ·obtain rfl:=Option.some.inj ho
      obtain rfl:=q0 (hall ⟨0,.data⟩ (by simp) rfl)
      have y0:v.cell? ⟨b5,0,none⟩=some (.slice Am ml.length cm):=(hA.src hgg hS.s hS.gr).b5_.cell 0
      clear hall ho
      refine wpOp_step rfl (fun K hK=>?_)
      go_simp
      exact hK _ _ ⟨_,_,_,_,_,_,_,_,_,_,rfl,hS,fun _=>rfl,fun _=>rfl,q2,q3,q4,q5,q6,fun _=>trivial,fun _=>trivial,q9⟩
     ·obtain rfl:=Option.some.inj ho
      clear hall ho
      refine wpOp_step rfl (fun K hK=>?_)
      go_simp
      exact hK _ _ ⟨_,_,_,_,_,_,_,_,_,_,rfl,hS,q0,q1,fun _=>rfl,q3,q4,q5,q6,fun _=>trivial,fun _=>trivial,q9⟩
     ·obtain rfl:=Option.some.inj ho
      clear hall ho
      refine wpOp_step rfl (fun K hK=>?_)
      go_simp
      exact hK _ _ ⟨_,_,_,_,_,_,_,_,_,_,rfl,hS,q0,q1,q2,fun _=>rfl,q4,q5,q6,fun _=>trivial,fun _=>trivial,q9⟩
     ·obtain rfl:=Option.some.inj ho
      obtain rfl:=q3 (hall ⟨3,.data⟩ (by simp) rfl)
      have y0:v.cell? ⟨b5,0,none⟩=some (.slice Am ml.length cm):=(hA.src hgg hS.s hS.gr).b5_.cell 0
      clear hall ho
      refine wpOp_step rfl (fun K hK=>?_)
      go_simp
      exact hK _ _ ⟨_,_,_,_,_,_,_,_,_,_,rfl,hS,q0,q1,q2,fun _=>rfl,fun _=>rfl,q5,q6,fun _=>trivial,fun _=>trivial,q9⟩
     ·obtain rfl:=Option.some.inj ho
      obtain rfl:=q4 (hall ⟨4,.data⟩ (by simp) rfl)
      clear hall ho
      refine wpOp_step rfl (fun K hK=>?_)
      go_simp
      exact hK _ _ ⟨_,_,_,_,_,_,_,_,_,_,rfl,hS,q0,q1,q2,q3,fun _=>rfl,fun _=>rfl,q6,fun _=>trivial,fun _=>trivial,q9⟩
     ·obtain rfl:=Option.some.inj ho
      obtain rfl:=q5 (hall ⟨5,.data⟩ (by simp) rfl)
      clear hall ho
      refine wpOp_step rfl (fun K hK=>?_)
      go_simp
      exact hK _ _ ⟨_,_,_,_,_,_,_,_,_,_,rfl,hS,q0,q1,q2,q3,q4,fun _=>rfl,fun _=>rfl,fun _=>trivial,fun _=>trivial,q9⟩
     ·obtain rfl:=Option.some.inj ho
      obtain rfl:=q2 (hall ⟨2,.data⟩ (by simp) rfl)
      obtain rfl:=q6 (hall ⟨6,.data⟩ (by simp) rfl)
      clear hall ho
      refine wpOp_step rfl (fun K hK=>?_)
      go_simp
      refine Calls.mono (l01Next_c A n c g _ v hS.s) ?_;rintro e w11 ⟨x,rfl,⟨xa,xb⟩,xd,hS9,hg9⟩
      go_simp
      obtain ⟨k,rfl⟩:=Int.eq_ofNat_of_zero_le xa
      have hk:k ≤ ml.length:=by omega
      exact hK _ _ ⟨_,_,_,_,_,_,_,_,_,_,rfl,⟨hS9,hS.gr.trans hg9,fun _=>⟨k,rfl,hk⟩,hS.l68⟩,q0,q1,fun _=>rfl,q3,q4,q5,fun _=>rfl,fun _=>trivial,fun _=>trivial,q9⟩
     ·obtain rfl:=Option.some.inj ho
      obtain rfl:=q1 (hall ⟨1,.data⟩ (by simp) rfl)
      have e7:fL 7=true:=hall ⟨7,.data⟩ (by simp) rfl
      obtain ⟨k,rfl,hk⟩:=hS.l67 e7
      clear hall ho
      refine wpOp_step rfl (fun K hK=>?_)
      have hr9:=hrun.out k v (by omega)
      go_simp
      exact hK _ _ ⟨_,_,_,_,_,_,_,_,_,_,rfl,⟨hS.s,hS.gr,hS.l67,fun _=>⟨k,ml.take k,by rw [List.length_take,Nat.min_eq_left hk],rfl,by simp;omega⟩⟩,q0,fun _=>rfl,q2,q3,q4,q5,q6,fun _=>trivial,fun _=>trivial,q9⟩
     ·obtain rfl:=Option.some.inj ho
      clear hall ho
      refine wpOp_step rfl (fun K hK=>?_)
      go_simp
      exact hK _ _ ⟨_,_,_,_,_,_,_,_,_,_,rfl,hS,q0,q1,q2,q3,q4,q5,q6,fun _=>trivial,fun _=>trivial,fun _=>rfl⟩
    rintro fL bA v ⟨v60,v61,v62,v63,v64,v65,v66,v67,v68,v69,rfl,hS,q0,q1,q2,q3,q4,q5,q6,q7,q8,q9⟩ hall
    simp only [Act.put,List.setIfInBounds_toArray,List.set_cons_zero,List.set_cons_succ]
    obtain rfl:=q0 (hall 0 (by omega))
    obtain rfl:=q1 (hall 1 (by omega))
    obtain rfl:=q2 (hall 2 (by omega))
    obtain rfl:=q3 (hall 3 (by omega))
    obtain rfl:=q4 (hall 4 (by omega))
    obtain rfl:=q5 (hall 5 (by omega))
    obtain rfl:=q6 (hall 6 (by omega))
    have e7:fL 7=true:=hall 7 (by omega)
    have e8:fL 8=true:=hall 8 (by omega)
    obtain rfl:=q9 (hall 9 (by omega))
    clear hall
    simp only [List.drop_succ_cons,List.drop_zero]
    obtain ⟨k,mq,rfl,hmq,hlq⟩:=hS.l68 e8
    have hA:=hA.src hgg hS.s hS.gr
    have hA9:=hA.setMv hlt (by rw [hmq];exact hA.m.take k:MvN v (b5+1) Am mq) (cm':=cm) ⟨by omega,by omega⟩
    clear hS hmm
    have y0_:v.cell? ⟨b5,0,none⟩=some (.slice Am ml.length cm):=hA.b5_.cell 0
    have y1_:=hA.b5_.frozen 0
    have y2_:=hA.b5_.lt
    have z0_:(v.setCell ⟨b5,0,none⟩ (.slice Am mq.length cm)).cell? ⟨b5,0,none⟩=some (.slice Am mq.length cm):=hA9.b5_.cell 0
    have z1_:(v.setCell ⟨b5,0,none⟩ (.slice Am mq.length cm)).cell? ⟨b5,1,none⟩=some (.int .i64 fa9):=hA9.b5_.cell 1
    have z2_:(v.setCell ⟨b5,0,none⟩ (.slice Am mq.length cm)).cell? ⟨b5,2,none⟩=some (.int .i64 fb9):=hA9.b5_.cell 2
    have hE:∃ (ml9:List Move) (V:World),V=v.setCell ⟨b5,0,none⟩ (.slice Am mq.length cm)∧ml9=mq:=⟨_,_,rfl,rfl⟩
    clear hmq hE hA
    have hA:=hA9
    clear hA9
    have hbn:=hA.bn.lt
    have hh5:=hA.h5
    have yd0:(v.setCell ⟨b5,0,none⟩ (.slice Am mq.length cm)).cell? ⟨w.heap.size+1,0,none⟩=some (.slice none 0 0):=hA.bn.cell 0
    have yd1:(v.setCell ⟨b5,0,none⟩ (.slice Am mq.length cm)).cell? ⟨w.heap.size+1,1,none⟩=some (.int .i64 0):=hA.bn.cell 1
    have yd2:(v.setCell ⟨b5,0,none⟩ (.slice Am mq.length cm)).cell? ⟨w.heap.size+1,2,none⟩=some (.int .i64 0):=hA.bn.cell 2
    have fd0:=hA.bn.frozen 0
    have fd1:=hA.bn.frozen 1
    have fd2:=hA.bn.frozen 2
    go_wp2
    refine bodyPost_ret (v:=.agg #[.slice Am mq.length cm,.int .i64 fa9,.int .i64 fb9]) (by simp [results,Tryz.results42,go_sem,yd0,yd1,yd2]) rfl ?_
    first | refine ⟨mq,Am,cm,⟨fa9,fb9,rfl⟩,hA.ml,?_,?_,?_⟩ | refine ⟨mq,Am,cm,fa9,fb9,rfl,hA.ml,?_,?_,?_⟩
    ·exact (((hA.m.set (by omega) _).set (by omega) _).set (by omega) _).weak (by omega)
    ·repeat (first | with_reducible exact hA.s | with_reducible refine Src.far ?_ (by first | omega | (simp only;omega)))
    ·repeat (first | with_reducible exact hA.gr | with_reducible refine grown_far ?_ (by first | (simp;done) | omega | (simp only;omega)))
   case' inr =>
    have q0':(q == 0)=false:=by simpa using q0
    rcases Classical.em (q=1) with q1 | q1
    case' inl =>
     subst q1
     have hml:=hA.ml
     obtain ⟨i0,hi0,hz0,hz1,hz2⟩:=info_parts info_Move
     have Hlen:Hid ((ml.map Move.cells).length=ml.length):=List.length_map _
     have Hr:=Lib.hid hml
     go_wp2_with fail
     refine wp_region_sink 11 (fun a0 fL bA v=>∃ v72 v73 v74 v75 v76 v77 v78 v79 v80 v81 v82:Value,bA=((((((((((a0.put (some 72) v72).put (some 73) v73).put (some 74) v74).put (some 75) v75).put (some 76) v76).put (some 77) v77).put (some 78) v78).put (some 79) v79).put (some 80) v80).put (some 81) v81).put (some 82) v82∧(A12S A n c g w10 (ml.map Move.cells) (fL 0) (fL 3) (fL 7) (fL 8) (fL 9) v72 v75 v79 v80 v81 v)∧(fL 0=true→True)∧(fL 1=true→v73=.pointer (some ⟨b5,0,none⟩))∧(fL 2=true→v74=.slice Am ml.length cm)∧(fL 3=true→True)∧(fL 4=true→v76=.pointer (some ⟨g,0,none⟩))∧(fL 5=true→v77=.pointer (some ⟨w.heap.size,0,none⟩))∧(fL 6=true→v78=.agg #[.int .i64 L,.slice A1 l1.length c1,.slice A2 l2.length c2])∧(fL 7=true→True)∧(fL 8=true→True)∧(fL 9=true→True)∧(fL 10=true→v82=.pointer (some ⟨b5,0,none⟩))) (by kernel_rfl) (by decide +kernel) ?_ ?_ ?_
     ·exact ⟨undef,undef,undef,undef,undef,undef,undef,undef,undef,undef,undef,by simp only [Act.put,List.setIfInBounds_toArray,List.set_cons_zero,List.set_cons_succ],A12S.start hA.s,nofun,nofun,nofun,nofun,nofun,nofun,nofun,nofun,nofun,nofun,nofun⟩
     ·rintro fL bA v ⟨v72,v73,v74,v75,v76,v77,v78,v79,v80,v81,v82,rfl,hS,q0,q1,q2,q3,q4,q5,q6,q7,q8,q9,q10⟩ i hi hf o ho hall
      simp only [Act.put,List.setIfInBounds_toArray,List.set_cons_zero,List.set_cons_succ]
      have hn:i=0 ∨ i=1 ∨ i=2 ∨ i=3 ∨ i=4 ∨ i=5 ∨ i=6 ∨ i=7 ∨ i=8 ∨ i=9 ∨ i=10:=by omega
      clear hi
      rcases hn with rfl | rfl | rfl | rfl | rfl | rfl | rfl | rfl | rfl | rfl | rfl
      ·obtain rfl:=Option.some.inj ho
       clear hall ho
       refine wpOp_step rfl (fun K hK=>?_)
       go_simp
       exact hK _ _ ⟨_,_,_,_,_,_,_,_,_,_,_,rfl,hS.s72 hf,fun _=>trivial,q1,q2,fun _=>trivial,q4,q5,q6,fun _=>trivial,fun _=>trivial,fun _=>trivial,q10⟩
      ·obtain rfl:=Option.some.inj ho
       clear hall ho
       refine wpOp_step rfl (fun K hK=>?_)
       go_simp
       exact hK _ _ ⟨_,_,_,_,_,_,_,_,_,_,_,rfl,hS,fun _=>trivial,fun _=>rfl,q2,fun _=>trivial,q4,q5,q6,fun _=>trivial,fun _=>trivial,fun _=>trivial,q10⟩
      ·obtain rfl:=Option.some.inj ho
       obtain rfl:=q1 (hall ⟨1,.data⟩ (by simp) rfl)
       have y0:v.cell? ⟨b5,0,none⟩=some (.slice Am ml.length cm):=(hA.src hgg hS.s hS.gr).b5_.cell 0
       clear hall ho
       refine wpOp_step rfl (fun K hK=>?_)
       go_simp
       exact hK _ _ ⟨_,_,_,_,_,_,_,_,_,_,_,rfl,hS,fun _=>trivial,fun _=>rfl,fun _=>rfl,fun _=>trivial,q4,q5,q6,fun _=>trivial,fun _=>trivial,fun _=>trivial,q10⟩
      ·obtain rfl:=Option.some.inj ho
       have e0:fL 0=true:=hall ⟨0,.data⟩ (by simp) rfl
       obtain rfl:=q2 (hall ⟨2,.data⟩ (by simp) rfl)
       clear hall ho
       refine wpOp_step rfl (fun K hK=>?_)
       refine step_append_rows _ rfl _ _ _ rfl w10.heap.size 75 i0 _ 4 32 Tryz.underlying49 hi0 hz0 hz1 hz2 rfl (by omega) _ [] rfl (hS.q72 e0 hf) _ _ _ _ (ml.map Move.cells) rfl Hlen.out (hA.m.slAt hS.gr (by have:=hA.h5;omega)) Move.one (by have:=Hr.out;unfold maxLen;simp only [List.length_nil];omega) (by have:=Hr.out;simp only [List.length_nil];omega) hS.gr.size ?_
       intro v' w' hO' hg' hat
       exact hK _ _ ⟨_,_,_,_,_,_,_,_,_,_,_,rfl,hS.s75 hf e0 hO' hg',fun _=>trivial,q1,fun _=>rfl,fun _=>trivial,q4,q5,q6,fun _=>trivial,fun _=>trivial,fun _=>trivial,q10⟩
      ·obtain rfl:=Option.some.inj ho
       clear hall ho
       refine wpOp_step rfl (fun K hK=>?_)
       go_simp
       exact hK _ _ ⟨_,_,_,_,_,_,_,_,_,_,_,rfl,hS,fun _=>trivial,q1,q2,fun _=>trivial,fun _=>rfl,q5,q6,fun _=>trivial,fun _=>trivial,fun _=>trivial,q10⟩
      ·obtain rfl:=Option.some.inj ho
       clear hall ho
       refine wpOp_step rfl (fun K hK=>?_)
       go_simp
       exact hK _ _ ⟨_,_,_,_,_,_,_,_,_,_,_,rfl,hS,fun _=>trivial,q1,q2,fun _=>trivial,q4,fun _=>rfl,q6,fun _=>trivial,fun _=>trivial,fun _=>trivial,q10⟩
      ·obtain rfl:=Option.some.inj ho
       obtain rfl:=q5 (hall ⟨5,.data⟩ (by simp) rfl)
       have y0:v.cell? ⟨w.heap.size,0,none⟩=some (.int .i64 L):=(hA.src hgg hS.s hS.gr).bx.cell 0
       have y1:v.cell? ⟨w.heap.size,1,none⟩=some (.slice A1 l1.length c1):=(hA.src hgg hS.s hS.gr).bx.cell 1
       have y2:v.cell? ⟨w.heap.size,2,none⟩=some (.slice A2 l2.length c2):=(hA.src hgg hS.s hS.gr).bx.cell 2
       clear hall ho
       refine wpOp_step rfl (fun K hK=>?_)
       go_simp
       exact hK _ _ ⟨_,_,_,_,_,_,_,_,_,_,_,rfl,hS,fun _=>trivial,q1,q2,fun _=>trivial,q4,fun _=>rfl,fun _=>rfl,fun _=>trivial,fun _=>trivial,fun _=>trivial,q10⟩
      ·obtain rfl:=Option.some.inj ho
       obtain rfl:=q4 (hall ⟨4,.data⟩ (by simp) rfl)
       obtain rfl:=q6 (hall ⟨6,.data⟩ (by simp) rfl)
       clear hall ho
       refine wpOp_step rfl (fun K hK=>?_)
       go_simp
       refine Calls.mono (l12DrawMove_c A n c g v hS.s L l1 l2 A1 A2 c1 c2 base hgb (hA.src hgg hS.s hS.gr).o1 (hA.src hgg hS.s hS.gr).o2 hl1 hl2) ?_;rintro e w11 ⟨mv,rfl,hS9,hg9⟩
       go_simp
       have ha:=hS.dr hS9 hg9
       exact hK _ _ ⟨_,_,_,_,_,_,_,_,_,_,_,rfl,{ ha with q79:=fun _=>⟨mv,rfl⟩ },fun _=>trivial,q1,q2,fun _=>trivial,fun _=>rfl,q5,fun _=>rfl,fun _=>trivial,fun _=>trivial,fun _=>trivial,q10⟩
      ·obtain rfl:=Option.some.inj ho
       have e7:fL 7=true:=hall ⟨7,.data⟩ (by simp) rfl
       obtain ⟨mv,rfl⟩:=hS.q79 e7
       clear hall ho
       refine wpOp_step rfl (fun K hK=>?_)
       unfold Move.agg
       go_simp
       exact hK _ _ ⟨_,_,_,_,_,_,_,_,_,_,_,rfl,hS.s80 (m:=mv) hf,fun _=>trivial,q1,q2,fun _=>trivial,q4,q5,q6,fun _=>trivial,fun _=>trivial,fun _=>trivial,q10⟩
      ·obtain rfl:=Option.some.inj ho
       have e3:fL 3=true:=hall ⟨3,.data⟩ (by simp) rfl
       have e8:fL 8=true:=hall ⟨8,.data⟩ (by simp) rfl
       clear hall ho
       refine wpOp_step rfl (fun K hK=>?_)
       obtain ⟨gb,mv,rfl,Bb,_,_⟩:=hS.q80 e8 hf
       refine step_append_rows _ rfl _ _ _ rfl w10.heap.size 75 i0 _ 4 32 Tryz.underlying49 hi0 hz0 hz1 hz2 rfl (by omega) _ (ml.map Move.cells) rfl (hS.q75 e3 hf) _ _ _ _ [mv.cells] rfl rfl (Sl.of_blk Bb _ rfl (by simp [Move.cells])) (Move.one (l:=[mv])) (by rw [Hlen.out];have:=Hr.out;unfold maxLen;simp;omega) (by rw [Hlen.out];have:=Hr.out;simp;omega) hS.gr.size ?_
       intro v' w' hO' hg' hat
       exact hK _ _ ⟨_,_,_,_,_,_,_,_,_,_,_,rfl,hS.s81 hf e3 e8 hO' hg',fun _=>trivial,q1,q2,fun _=>trivial,q4,q5,q6,fun _=>trivial,fun _=>trivial,fun _=>trivial,q10⟩
      ·obtain rfl:=Option.some.inj ho
       clear hall ho
       refine wpOp_step rfl (fun K hK=>?_)
       go_simp
       exact hK _ _ ⟨_,_,_,_,_,_,_,_,_,_,_,rfl,hS,fun _=>trivial,q1,q2,fun _=>trivial,q4,q5,q6,fun _=>trivial,fun _=>trivial,fun _=>trivial,fun _=>rfl⟩
     rintro fL bA v ⟨v72,v73,v74,v75,v76,v77,v78,v79,v80,v81,v82,rfl,hS,q0,q1,q2,q3,q4,q5,q6,q7,q8,q9,q10⟩ hall
     simp only [Act.put,List.setIfInBounds_toArray,List.set_cons_zero,List.set_cons_succ]
     have e0:fL 0=true:=hall 0 (by omega)
     obtain rfl:=q1 (hall 1 (by omega))
     obtain rfl:=q2 (hall 2 (by omega))
     have e3:fL 3=true:=hall 3 (by omega)
     obtain rfl:=q4 (hall 4 (by omega))
     obtain rfl:=q5 (hall 5 (by omega))
     obtain rfl:=q6 (hall 6 (by omega))
     have e7:fL 7=true:=hall 7 (by omega)
     have e8:fL 8=true:=hall 8 (by omega)
     have e9:fL 9=true:=hall 9 (by omega)
     obtain rfl:=q10 (hall 10 (by omega))
     clear hall
     simp only [List.drop_succ_cons,List.drop_zero]
     obtain ⟨mv,hO⟩:=hS.q81 e9
     have hrow:ml.map Move.cells ++ [mv.cells]=(ml ++ [mv]).map Move.cells:=by simp
     rw [hrow] at hO
     have hlq:(ml ++ [mv]).length ≤ 100:=by simp;omega
     generalize ml ++ [mv]=mq at hO hlq
     have hf:∃ (Aq:Option Addr) (cq:Nat),v81=.slice Aq mq.length cq:=by
      obtain ⟨A',c',h,_⟩:=hO.form
      rw [List.length_map] at h
      exact ⟨A',c',h⟩
     obtain ⟨Aq,cq,rfl⟩:=hf
     have hcq:=hO.le_cap
     have hblt:=hA.b5_.lt
     have hMq:MvN v (b5+1) Aq mq:=MvN.ofOwn hO hblt
     have hA:=hA.src hgg hS.s hS.gr
     have hA9:=hA.setMv hlt hMq ⟨hlq,hcq⟩
     clear hO hrow hMq
     clear hS
     have y0_:v.cell? ⟨b5,0,none⟩=some (.slice Am ml.length cm):=hA.b5_.cell 0
     have y1_:=hA.b5_.frozen 0
     have y2_:=hA.b5_.lt
     have z0_:(v.setCell ⟨b5,0,none⟩ (.slice Aq mq.length cq)).cell? ⟨b5,0,none⟩=some (.slice Aq mq.length cq):=hA9.b5_.cell 0
     have z1_:(v.setCell ⟨b5,0,none⟩ (.slice Aq mq.length cq)).cell? ⟨b5,1,none⟩=some (.int .i64 fa9):=hA9.b5_.cell 1
     have z2_:(v.setCell ⟨b5,0,none⟩ (.slice Aq mq.length cq)).cell? ⟨b5,2,none⟩=some (.int .i64 fb9):=hA9.b5_.cell 2
     clear hA
     have hA:=hA9
     clear hA9
     have hbn:=hA.bn.lt
     have hh5:=hA.h5
     have yd0:(v.setCell ⟨b5,0,none⟩ (.slice Aq mq.length cq)).cell? ⟨w.heap.size+1,0,none⟩=some (.slice none 0 0):=hA.bn.cell 0
     have yd1:(v.setCell ⟨b5,0,none⟩ (.slice Aq mq.length cq)).cell? ⟨w.heap.size+1,1,none⟩=some (.int .i64 0):=hA.bn.cell 1
     have yd2:(v.setCell ⟨b5,0,none⟩ (.slice Aq mq.length cq)).cell? ⟨w.heap.size+1,2,none⟩=some (.int .i64 0):=hA.bn.cell 2
     have fd0:=hA.bn.frozen 0
     have fd1:=hA.bn.frozen 1
     have fd2:=hA.bn.frozen 2
     go_wp2
     refine bodyPost_ret (v:=.agg #[.slice Aq mq.length cq,.int .i64 fa9,.int .i64 fb9]) (by simp [results,Tryz.results42,go_sem,yd0,yd1,yd2]) rfl ?_
     first | refine ⟨mq,Aq,cq,⟨fa9,fb9,rfl⟩,hA.ml,?_,?_,?_⟩ | refine ⟨mq,Aq,cq,fa9,fb9,rfl,hA.ml,?_,?_,?_⟩
     ·exact (((hA.m.set (by omega) _).set (by omega) _).set (by omega) _).weak (by omega)
     ·repeat (first | with_reducible exact hA.s | with_reducible refine Src.far ?_ (by first | omega | (simp only;omega)))
     ·repeat (first | with_reducible exact hA.gr | with_reducible refine grown_far ?_ (by first | (simp;done) | omega | (simp only;omega)))
    case' inr =>
     have q1':(q == 1)=false:=by simpa using q1
     have hbn:=hA.bn.lt
     have hh5:=hA.h5
     have z0_:w10.cell? ⟨b5,0,none⟩=some (.slice Am ml.length cm):=hA.b5_.cell 0
     have z1_:w10.cell? ⟨b5,1,none⟩=some (.int .i64 fa9):=hA.b5_.cell 1
     have z2_:w10.cell? ⟨b5,2,none⟩=some (.int .i64 fb9):=hA.b5_.cell 2
     have yd0:w10.cell? ⟨w.heap.size+1,0,none⟩=some (.slice none 0 0):=hA.bn.cell 0
     have yd1:w10.cell? ⟨w.heap.size+1,1,none⟩=some (.int .i64 0):=hA.bn.cell 1
     have yd2:w10.cell? ⟨w.heap.size+1,2,none⟩=some (.int .i64 0):=hA.bn.cell 2
     have fd0:=hA.bn.frozen 0
     have fd1:=hA.bn.frozen 1
     have fd2:=hA.bn.frozen 2
     go_wp2
     refine bodyPost_ret (v:=.agg #[.slice Am ml.length cm,.int .i64 fa9,.int .i64 fb9]) (by simp [results,Tryz.results42,go_sem,yd0,yd1,yd2]) rfl ?_
     first | refine ⟨ml,Am,cm,⟨fa9,fb9,rfl⟩,hA.ml,?_,?_,?_⟩ | refine ⟨ml,Am,cm,fa9,fb9,rfl,hA.ml,?_,?_,?_⟩
     ·exact (((hA.m.set (by omega) _).set (by omega) _).set (by omega) _).weak (by omega)
     ·repeat (first | with_reducible exact hA.s | with_reducible refine Src.far ?_ (by first | omega | (simp only;omega)))
     ·repeat (first | with_reducible exact hA.gr | with_reducible refine grown_far ?_ (by first | (simp;done) | omega | (simp only;omega)))
end Go.Proofs.YtednjmldjbndhaaGreat
