/- Charts: the laws' copies and comparisons of them. No condition beyond the lengths. Releases: the laws' copies and comparisons of them. No condition beyond the lengths. Releases as records: their cells behind a name. Conditions: the lengths. Entries as records: the laws' copies, comparison and size of one. Conditions: the lengths. Entries: the laws' copy of one. Conditions: the lengths. Lists of entries: the laws' copies, comparison and size of them. Conditions: the lists' lengths. Facts on library bodies of this program, as the kit's own tool writes them: every line is read off the program by the kernel. No condition. The title of an entry: strings.Trim at the letters. Condition: the length. The title of an entry: the reference's test. Condition: the length. slices.ContainsFunc at []impl.Entry, at a predicate that only computes. Conditions: the lengths. An entry behind others: the closure that looks for the same title and version. No condition. Catalogues in plain words: an entry behind others, a catalogue, the latest of a title. No condition of their own. Loads of whole structs under a guard. No condition. An entry behind others: the program's test. Conditions: the lengths. Whether a list of entries is a catalogue: the program's. Conditions: the lengths. -/
import Derived.Deep.WholeRow
import Derived.Shelf.Lays
import Derived.Shelf.Strings.SlTrimAscii
import Derived.Test.YtednjmldjbndhaaGreatDoorProg
import Derived.Shelf.Abstract
import Derived.Lib.SliceRun
import Derived.Test.YtednjmldjbndhaaGreatDoorKMr15
import Derived.Test.YtednjmldjbndhaaGreatDoorKMr18
import Derived.Test.YtednjmldjbndhaaGreatDoorKMr19
import Derived.Test.YtednjmldjbndhaaGreatDoorKMr8
set_option linter.unusedSimpArgs false
set_option linter.unusedVariables false
set_option maxRecDepth 100000
set_option maxHeartbeats 8000000
namespace Go.Proofs.YtednjmldjbndhaaGreatDoor
open Go.RowKit

end Go.Proofs.YtednjmldjbndhaaGreatDoor
namespace Go.Proofs.YtednjmldjbndhaaGreatDoor
open Go.RowKit
def fillL:List Value→Nat→List Value→List Value
 | L,_,[]=>L
 | L,p,v :: vs=>fillL (L.set p v) (p+1) vs
theorem Blk.setL {g:Nat} {t:TypeId}:∀ (vs:List Value) (p:Nat) {w:World} {L:List Value},Blk w g t L.toArray→Blk (stores w g p vs) g t (fillL L p vs).toArray
 | [],_,_,_,h=>h
 | v :: vs,p,_,L,h=>Blk.setL vs (p+1) (L:=L.set p v) (by have:=h.set_ p v;rwa [List.setIfInBounds_toArray] at this)
theorem res_cells {P:Program} {fn:Func} {tm:Array Value} {k:Nat} {t:TypeId} {g:Nat} {w:World} {vs:List Value} {t':TypeId} (hr:fn.results=#[.cell k t])
  (ht:tm.getD k undef=.pointer (some ⟨g,0,none⟩)) (hA:(isAgg t).run P w=.ok true w) (hS:(sizeOf t).run P w=.ok vs.length w) (hB:Blk w g t' vs.toArray) :
  (results fn tm).run P w=.ok (.agg vs.toArray) w:=by
 have hl:=run_loadCells_list (P:=P) w ⟨g,0,none⟩ vs (fun j v hv=>by
  have:=hB.cell j
  rw [show (⟨g,0,none⟩:Addr).add j=⟨g,j,none⟩ by cases j <;> simp [Addr.add],this]
  simpa using hv)
 unfold loadCells at hl
 rw [Array.getD_eq_getD_getElem?] at ht
 unfold results
 rw [hr]
 simp [asAddr,loadVar,ht,hA,hS,hl,go_sem,List.mapM_cons]
end Go.Proofs.YtednjmldjbndhaaGreatDoor
namespace Go.Proofs.YtednjmldjbndhaaGreatDoor
open Go.RowKit
structure Rl where
 fd:Int
 ft:Int
 nm:ByteArray
 l:List Int
 wd:Int
 lf:Int
 rt:Int
 lud:Int
 lut:Int
 hud:Int
 hut:Int
 lvd:Int
 lvt:Int
 hvd:Int
 hvt:Int
 ey:Int
 bo:Int
def Rl.cells (r:Rl) (A:Option Addr) (c:Nat):List Value:=[.int .i64 r.fd,.int .i64 r.ft,.string r.nm,.slice A r.l.length c,.int .i64 r.wd,.int .i64 r.lf,.int .i64 r.rt,.int .i64 r.lud,.int .i64 r.lut,.int .i64 r.hud,.int .i64 r.hut,.int .i64 r.lvd,.int .i64 r.lvt,.int .i64 r.hvd,.int .i64 r.hvt,.int .i64 r.ey,.int .i64 r.bo]
def Rl.zero:List Value:=[.int .i64 0,.int .i64 0,.string ByteArray.empty,.slice none 0 0,.int .i64 0,.int .i64 0,.int .i64 0,.int .i64 0,.int .i64 0,.int .i64 0,.int .i64 0,.int .i64 0,.int .i64 0,.int .i64 0,.int .i64 0,.int .i64 0,.int .i64 0]
theorem Rl.len (r:Rl) (A:Option Addr) (c:Nat):(r.cells A c).length=17:=rfl
theorem Rl.one (r:Rl) (A:Option Addr) (c:Nat):∀ v ∈ r.cells A c,v.oneCell'=true:=by
 unfold Rl.cells
 simp only [List.mem_cons,List.not_mem_nil,or_false]
 rintro v hv
 rcases hv with h | h | h | h | h | h | h | h | h | h | h | h | h | h | h | h | h <;> subst h <;> rfl
def Rl.b (r:Rl):Bool:=relB r.fd r.ft r.nm r.l r.wd r.lf r.rt ⟨r.lud,r.lut⟩ ⟨r.hud,r.hut⟩ ⟨r.lvd,r.lvt⟩ ⟨r.hvd,r.hvt⟩ r.ey r.bo
def Rl.nums (r:Rl):List Int:=relNums r.fd r.ft r.l r.wd r.lf r.rt ⟨r.lud,r.lut⟩ ⟨r.hud,r.hut⟩ ⟨r.lvd,r.lvt⟩ ⟨r.hvd,r.hvt⟩ r.ey r.bo
structure RlIn (w:World) (A:Option Addr) (c:Nat) (r:Rl):Prop where
 h:r.l.length ≤ 1048576
 hn:r.nm.size ≤ 1048576
 s:Sl w w.heap.size 1 A (r.l.map ic)
theorem RlIn.later {w W:World} {A:Option Addr} {c:Nat} {r:Rl} (E:RlIn w A c r) (hW:Below w.heap.size w W):RlIn W A c r:=⟨E.h,E.hn,(E.s.below hW).more hW.size⟩
structure RlLaid (w:World) (A:Option Addr) (c:Nat) (r:Rl):Prop where
 hm:r.nm.size ≤ maxLen
 k:r.l.length ≤ c
 z:r.l.length ≤ 140737488351232
 s:Sl w w.heap.size 1 A (r.l.map ic)
theorem RlLaid.rl {w:World} {A:Option Addr} {c:Nat} {r:Rl} (E:RlLaid w A c r) (h:r.nm.size ≤ 1048576∧r.l.length ≤ 1048576):RlIn w A c r:=⟨h.2,h.1,E.s⟩
theorem wpList_store_new {P:Program} {ops:Array Oper} {rest:List Oper} {op:Oper} {a:Act} {w:World} {Q:Exit→Act→World→Prop} {ty:TypeId} {c:Array Value} (hgd:op.guard=none) (x y:Operand) (ho:op.op=.store ty x y)
  (cs:List Value) (hx:a.eval x=.pointer (some ⟨w.heap.size,0,none⟩)) (hy:a.eval y=.agg cs.toArray) (hi:(P.info? ty).map (·.size)=some cs.length) (hs:c.size=cs.length) (h1:∀ v ∈ cs,v.oneCell'=true)
  (h:wpList P ops Q rest (a.put op.dst undef) (w.alloc (.cells cs.toArray ty))):wpList P ops Q (op :: rest) a (w.alloc (.cells c ty)):=by
 refine wpList_plain hgd fun K hK=>?_
 unfold Oper.wp execOp
 have hr:=run_storeVar_new (P:=P) w ty c cs.toArray (by simpa using hi) (by simpa using hs) (all_oneCell_toArray h1)
 simp only [ho,hx,hy,Instr.storeAt,Instr.sureAddr,Sem.run_bind,Sem.run_pure,Result.andThen_ok,hr]
 exact hK _ _ h
theorem implIsRl_c (r:Rl) (A:Option Addr) (c:Nat) (w:World) (E:RlIn w A c r):Calls Tryz.prog 52 #[.agg (r.cells A c).toArray] w fun e w'=>e=.returned (.bool r.b)∧Below w.heap.size w w' :=
 implIsRelease_c r.fd r.ft r.nm A c r.l r.wd r.lf r.rt ⟨r.lud,r.lut⟩ ⟨r.hud,r.hut⟩ ⟨r.lvd,r.lvt⟩ ⟨r.hvd,r.hvt⟩ r.ey r.bo w E.hn E.h E.s
theorem implMarkRl_c (r:Rl) (A:Option Addr) (c:Nat) (w:World) (E:RlIn w A c r):Calls Tryz.prog 26 #[.agg (r.cells A c).toArray] w fun e w'=>e=.returned (.tuple #[.int .i64 (relMark r.b r.nums),.int .i64 (relCode r.b)])∧Below w.heap.size w w' :=
 implMarkOf_c r.fd r.ft r.nm A c r.l r.wd r.lf r.rt ⟨r.lud,r.lut⟩ ⟨r.hud,r.hut⟩ ⟨r.lvd,r.lvt⟩ ⟨r.hvd,r.hvt⟩ r.ey r.bo w E.hn E.h E.s
theorem specIsRl_c (r:Rl) (A:Option Addr) (c:Nat) (w:World) (E:RlIn w A c r):Calls Tryz.prog 57 #[.agg (r.cells A c).toArray] w fun e w'=>e=.returned (.bool r.b)∧Below w.heap.size w w' :=
 specIsRelease_c r.fd r.ft r.nm A c r.l r.wd r.lf r.rt ⟨r.lud,r.lut⟩ ⟨r.hud,r.hut⟩ ⟨r.lvd,r.lvt⟩ ⟨r.hvd,r.hvt⟩ r.ey r.bo w E.hn E.h E.s
theorem specMarkRl_c (r:Rl) (A:Option Addr) (c:Nat) (w:World) (E:RlIn w A c r):Calls Tryz.prog 27 #[.agg (r.cells A c).toArray] w fun e w'=>e=.returned (.tuple #[.int .i64 (relMark r.b r.nums),.int .i64 (relCode r.b)])∧Below w.heap.size w w' :=
 specMarkOf_c r.fd r.ft r.nm A c r.l r.wd r.lf r.rt ⟨r.lud,r.lut⟩ ⟨r.hud,r.hut⟩ ⟨r.lvd,r.lvt⟩ ⟨r.hvd,r.hvt⟩ r.ey r.bo w E.hn E.h E.s
end Go.Proofs.YtednjmldjbndhaaGreatDoor
namespace Go.Proofs.YtednjmldjbndhaaGreatDoor
open Go.RowKit
structure En where
 ti:ByteArray
 ve:Int
 r:Rl
 ba:Int
def En.cells (e:En) (A:Option Addr) (c:Nat):List Value:=[.string e.ti,.int .i64 e.ve] ++ e.r.cells A c ++ [.int .i64 e.ba]
theorem En.len (e:En) (A:Option Addr) (c:Nat):(e.cells A c).length=20:=rfl
theorem En.one (e:En) (A:Option Addr) (c:Nat):∀ v ∈ e.cells A c,v.oneCell'=true:=by
 intro v hv
 unfold En.cells at hv
 rcases List.mem_append.1 hv with h | h
 ·rcases List.mem_append.1 h with h | h
  ·simp only [List.mem_cons,List.not_mem_nil,or_false] at h
   rcases h with rfl | rfl <;> rfl
  ·exact e.r.one A c v h
 ·simp only [List.mem_singleton] at h
  subst h
  rfl
structure EnIn (w:World) (A:Option Addr) (c:Nat) (e:En):Prop where
 t:e.ti.size ≤ 1048576
 r:RlIn w A c e.r
theorem EnIn.later {w W:World} {A:Option Addr} {c:Nat} {e:En} (E:EnIn w A c e) (hW:Below w.heap.size w W):EnIn W A c e:=⟨E.t,E.r.later hW⟩
structure EnLaid (w:World) (A:Option Addr) (c:Nat) (e:En):Prop where
 t:e.ti.size ≤ maxLen
 r:RlLaid w A c e.r
theorem RlLaid.later {w W:World} {A:Option Addr} {c:Nat} {r:Rl} (E:RlLaid w A c r) (hW:Below w.heap.size w W):RlLaid W A c r:=⟨E.hm,E.k,E.z,(E.s.below hW).more hW.size⟩
theorem EnLaid.later {w W:World} {A:Option Addr} {c:Nat} {e:En} (E:EnLaid w A c e) (hW:Below w.heap.size w W):EnLaid W A c e:=⟨E.t,E.r.later hW⟩
def En.short (e:En):Prop:=e.ti.size ≤ 1048576∧e.r.nm.size ≤ 1048576∧e.r.l.length ≤ 1048576
theorem EnLaid.en {w:World} {A:Option Addr} {c:Nat} {e:En} (E:EnLaid w A c e) (h:e.short):EnIn w A c e:=⟨h.1,E.r.rl h.2⟩
theorem Blk.en {w:World} {g:Nat} {t:TypeId} {e:En} {A:Option Addr} {c:Nat} (h:Blk w g t (e.cells A c).toArray) :
  w.cell? ⟨g,0,none⟩=some (.string e.ti)∧w.cell? ⟨g,1,none⟩=some (.int .i64 e.ve)∧w.rangeAt g 2 (e.r.cells A c)∧w.cell? ⟨g,19,none⟩=some (.int .i64 e.ba) :=
 ⟨h.cell 0,h.cell 1,Blk.part (xs:=[.string e.ti,.int .i64 e.ve]) (ys:=[.int .i64 e.ba]) h rfl,h.cell 19⟩
end Go.Proofs.YtednjmldjbndhaaGreatDoor
namespace Go.Proofs.YtednjmldjbndhaaGreatDoor
open Go.RowKit
theorem stores_cells' (g:Nat):∀ (vs:List Value) (p:Nat) (w:World),w.setCells g p vs=stores w g p vs
 | [],_,_=>rfl
 | _ :: r,p,_=>stores_cells' g r (p+1) _
theorem fill_mid:∀ (vs S P T:List Value),S.length=vs.length→fillL (P ++ S ++ T) P.length vs=P ++ vs ++ T
 | [],S,P,T,h=>by
  obtain rfl:S=[]:=List.eq_nil_of_length_eq_zero h
  rfl
 | v :: vs,[],P,T,h=>by simp at h
 | v :: vs,s :: S,P,T,h=>by
  have ih:=fill_mid vs S (P ++ [v]) T (by simpa using h)
  unfold fillL
  rw [List.append_assoc,List.set_append_right _ _ (Nat.le_refl _),Nat.sub_self,List.cons_append,List.set_cons_zero]
  simpa using ih
theorem wpList_store_part {P:Program} {ops:Array Oper} {rest:List Oper} {op:Oper} {a:Act} {w:World} {Q:Exit→Act→World→Prop} (hgd:op.guard=none) (ty:TypeId) (x y:Operand) (ho:op.op=.store ty x y)
  (g o:Nat) (cs:List Value) (hx:a.eval x=.pointer (some ⟨g,o,none⟩)) (hy:a.eval y=.agg cs.toArray) {t:TypeId} {L:List Value} (hB:Blk w g t L.toArray) (hl:o+cs.length ≤ L.length)
  (hi:(P.info? ty).map (·.size)=some cs.length) (h1:∀ v ∈ cs,v.oneCell'=true)
  (h:∀ w2,w.grownBy w2 (some g)→Blk w2 g t (fillL L o cs).toArray→wpList P ops Q rest (a.put op.dst undef) w2):wpList P ops Q (op :: rest) a w:=by
 refine wpList_store_mid hgd ty x y ho g o cs.toArray hx hy (fun j hj=>⟨?_,hB.frozen _⟩) (by simpa using hi) (all_oneCell_toArray h1) ?_
 ·have hjl:o+j < L.length:=by simp at hj;omega
  rw [hB.cell]
  simp [hjl]
 ·have hc:w.setCells g o cs.toArray.toList=stores w g o cs:=stores_cells' g cs o w
  rw [hc]
  exact h _ (grownBy_stores cs o (World.grownBy.refl w (some g))) (Blk.setL cs o hB)
def EnZ:List Value:=[.string ⟨#[]⟩,.int .i64 0,.int .i64 0,.int .i64 0,.string ⟨#[]⟩,.slice none 0 0,.int .i64 0,.int .i64 0,.int .i64 0,.int .i64 0,.int .i64 0,.int .i64 0,.int .i64 0,.int .i64 0,.int .i64 0,.int .i64 0,.int .i64 0,.int .i64 0,.int .i64 0,.int .i64 0]
end Go.Proofs.YtednjmldjbndhaaGreatDoor
namespace Go.Proofs.YtednjmldjbndhaaGreatDoor
open Go.RowKit
structure EnR where
 e:En
 A:Option Addr
 c:Nat
def EnR.cells (x:EnR):List Value:=x.e.cells x.A x.c
def EnR.In (x:EnR) (w:World):Prop:=EnIn w x.A x.c x.e
def ens (l:List EnR):List En:=l.map EnR.e
structure EnsIn (w:World) (A:Option Addr) (es:List EnR):Prop where
 n:es.length ≤ 1048576
 s:Sl w w.heap.size 20 A (es.map EnR.cells)
 i:∀ e ∈ es,e.In w
theorem EnsIn.later {w W:World} {A:Option Addr} {es:List EnR} (h:EnsIn w A es) (hW:Below w.heap.size w W):EnsIn W A es:=⟨h.n,(h.s.below hW).more hW.size,fun e he=>EnIn.later (h.i e he) hW⟩
def OffE (A:Option Addr) (g:Nat):Prop:=∀ b off,A=some ⟨b,off,none⟩→b ≠ g
theorem sl_farE {w:World} {B k:Nat} {A:Option Addr} {xs:List (List Value)} {g j:Nat} {u:Value} (h:Sl w B k A xs) (ho:OffE A g):Sl (w.setCell ⟨g,j,none⟩ u) B k A xs:=fun i x hx=>by
 obtain ⟨hl,b,off,e,hb,hc⟩:=h i x hx
 exact ⟨hl,b,off,e,hb,fun jj v hv=>(World.cell?_setCell_far _ _ _ _ (Ne.symm (ho b off e))).trans (hc jj v hv)⟩
theorem EnR.In.far {x:EnR} {w:World} {g j:Nat} {u:Value} (h:x.In w) (hf:OffE x.A g):x.In (w.setCell ⟨g,j,none⟩ u):=by
 have hz:(w.setCell ⟨g,j,none⟩ u).heap.size=w.heap.size:=by simp
 exact ⟨h.t,h.r.h,h.r.hn,by rw [hz];exact sl_farE h.r.s hf⟩
theorem EnR.In.stores {x:EnR} {g:Nat} (hf:OffE x.A g):∀ (cs:List Value) (p:Nat) {w:World},x.In w→x.In (stores w g p cs)
 | [],_,_,h=>h
 | _ :: vs,p,_,h=>EnR.In.stores hf vs (p+1) (h.far hf)
theorem Sl.rg {w:World} {B k:Nat} {A:Option Addr} {xs:List (List Value)} (h:Sl w B k A xs) {i:Nat} (hi:i < xs.length):∃ b off,A=some ⟨b,off,none⟩∧b < B∧w.rangeAt b (off+i * k) xs[i]:=h.at_ hi
theorem rangeAt_below {B:Nat} {w w':World} {b o:Nat} {cs:List Value} (h:w.rangeAt b o cs) (hb:Below B w w') (hB:b < B):w'.rangeAt b o cs:=fun j v hv=>by rw [hb.cell hB];exact h j v hv
end Go.Proofs.YtednjmldjbndhaaGreatDoor
namespace Go.Proofs.YtednjmldjbndhaaGreatDoor
open Go.Shelf
def Tryz.layTrim_ren:Go.Shelf.Ren:=⟨fun | 160=>65 | 232=>96 | 231=>95 | 227=>97 | 234=>99 | 233=>98 | 236=>101 | 235=>100 | 228=>127 | 271=>130 | 151=>129 | 197=>128 | 120=>147 | 152=>146 | 260=>145 | 137=>157 | 119=>158 | 224=>159 | 225=>160 | 217=>165 | 266=>167 | n=>n,fun | 9=>9 | 4=>4 | 3=>3 | 5=>5 | 117=>113 | 116=>112 | 0=>0 | 124=>116 | 21=>21 | 105=>143 | 46=>109 | 119=>167 | 139=>170 | 138=>169 | n=>n,fun | 3=>0 | 4=>1 | n=>n⟩
theorem Tryz.layTrim:Go.Proofs.Lays.n160 Tryz.prog Tryz.layTrim_ren:={
 mixed:=by kernel_rfl
 f119:=Tryz.func158.trans (congrArg some (by kernel_rfl))
 f120:=Tryz.func147.trans (congrArg some (by kernel_rfl))
 f137:=Tryz.func157.trans (congrArg some (by kernel_rfl))
 f151:=Tryz.func129.trans (congrArg some (by kernel_rfl))
 f152:=Tryz.func146.trans (congrArg some (by kernel_rfl))
 f160:=Tryz.func65.trans (congrArg some (by kernel_rfl))
 f197:=Tryz.func128.trans (congrArg some (by kernel_rfl))
 f217:=Tryz.func165.trans (congrArg some (by kernel_rfl))
 f224:=Tryz.func159.trans (congrArg some (by kernel_rfl))
 f225:=Tryz.func160.trans (congrArg some (by kernel_rfl))
 f227:=Tryz.func97.trans (congrArg some (by kernel_rfl))
 f228:=Tryz.func127.trans (congrArg some (by kernel_rfl))
 f231:=Tryz.func95.trans (congrArg some (by kernel_rfl))
 f232:=Tryz.func96.trans (congrArg some (by kernel_rfl))
 f233:=Tryz.func98.trans (congrArg some (by kernel_rfl))
 f234:=Tryz.func99.trans (congrArg some (by kernel_rfl))
 f235:=Tryz.func100.trans (congrArg some (by kernel_rfl))
 f236:=Tryz.func101.trans (congrArg some (by kernel_rfl))
 f260:=Tryz.func145.trans (congrArg some (by kernel_rfl))
 f266:=Tryz.func167.trans (congrArg some (by kernel_rfl))
 f271:=Tryz.func130.trans (congrArg some (by kernel_rfl))
 t0:=Tryz.underlying0
 a0:=Tryz.isAgg0
 z0:=Tryz.sizeOf0
 v0:=Tryz.zeroValue0
 t3:=Tryz.underlying3
 a3:=Tryz.isAgg3
 z3:=Tryz.sizeOf3
 v3:=Tryz.zeroValue3
 t4:=Tryz.underlying4
 a4:=Tryz.isAgg4
 z4:=Tryz.sizeOf4
 v4:=Tryz.zeroValue4
 t5:=Tryz.underlying5
 a5:=Tryz.isAgg5
 z5:=Tryz.sizeOf5
 v5:=Tryz.zeroValue5
 t9:=Tryz.underlying9
 a9:=Tryz.isAgg9
 z9:=Tryz.sizeOf9
 v9:=Tryz.zeroValue9
 t21:=Tryz.underlying21
 a21:=Tryz.isAgg21
 z21:=Tryz.sizeOf21
 v21:=Tryz.zeroValue21
 t46:=Tryz.underlying109
 a46:=Tryz.isAgg109
 z46:=Tryz.sizeOf109
 v46:=Tryz.zeroValue109
 t105:=Tryz.underlying143
 a105:=Tryz.isAgg143
 z105:=Tryz.sizeOf143
 v105:=Tryz.zeroValue143
 t116:=Tryz.underlying112
 a116:=Tryz.isAgg112
 z116:=Tryz.sizeOf112
 t117:=Tryz.underlying113
 a117:=Tryz.isAgg113
 z117:=Tryz.sizeOf113
 v117:=Tryz.zeroValue113
 t119:=Tryz.underlying167
 a119:=Tryz.isAgg167
 z119:=Tryz.sizeOf167
 t124:=Tryz.underlying116
 a124:=Tryz.isAgg116
 z124:=Tryz.sizeOf116
 v124:=Tryz.zeroValue116
 t138:=Tryz.underlying169
 a138:=Tryz.isAgg169
 z138:=Tryz.sizeOf169
 v138:=Tryz.zeroValue169
 t139:=Tryz.underlying170
 a139:=Tryz.isAgg170
 z139:=Tryz.sizeOf170
 v139:=Tryz.zeroValue170
 g3:=by kernel_rfl
 g4:=by kernel_rfl }
end Go.Proofs.YtednjmldjbndhaaGreatDoor
namespace Go.Proofs.YtednjmldjbndhaaGreatDoor
open Go.RowKit Go.Shelf
def lettersA:List UInt8:=[97,98,99,100,101,102,103,104,105,106,107,108,109,110,111,112,113,114,115,116,117,118,119,120,121,122]
def isLetter (b:UInt8):Bool:=decide (97 ≤ b.toNat) && decide (b.toNat ≤ 122)
theorem letter_iff (b:UInt8):lettersA.contains b=isLetter b:=by
 have h:∀ n:Fin 256,lettersA.contains (UInt8.ofNat n.val)=isLetter (UInt8.ofNat n.val):=by decide +kernel
 have:=h ⟨b.toNat,b.toNat_lt⟩
 simpa using this
theorem dropWhile_all {α:Type} {p:α→Bool}:∀ (m:List α),(∀ x ∈ m.dropWhile p,p x=true)→∀ x ∈ m,p x=true
 | [],_,_,h=>by cases h
 | a :: m,h,x,hx=>by
  by_cases ha:p a=true
  ·rw [List.dropWhile_cons_of_pos ha] at h
   rcases List.mem_cons.1 hx with rfl | hx
   ·exact ha
   ·exact dropWhile_all m h x hx
  ·rw [List.dropWhile_cons_of_neg ha] at h
   exact h x hx
theorem dropWhile_nil {α:Type} {p:α→Bool}:∀ (m:List α),m.dropWhile p=[] ↔ ∀ x ∈ m,p x=true
 | []=>by simp
 | a :: m=>by
  by_cases ha:p a=true
  ·rw [List.dropWhile_cons_of_pos ha,dropWhile_nil m]
   simp [ha]
  ·rw [List.dropWhile_cons_of_neg ha]
   simp [ha]
theorem trim_nil (l cs:List UInt8):Lib.trimS l cs=[] ↔ ∀ x ∈ l,cs.contains x=true:=by
 unfold Lib.trimS Lib.trimLeftS Lib.trimRightS
 rw [dropWhile_nil]
 constructor
 ·intro h x hx
  exact dropWhile_all l.reverse (fun y hy=>h y (List.mem_reverse.2 hy)) x (List.mem_reverse.2 hx)
 ·intro h x hx
  have:l.reverse.dropWhile (cs.contains ·)=[]:=(dropWhile_nil _).2 (fun y hy=>h y (List.mem_reverse.1 hy))
  rw [this] at hx
  cases hx
def titleB (s:ByteArray):Bool:=inB s.size 1 12 && s.data.toList.all isLetter
theorem trimTitle_c (s:ByteArray) (w:World) (hs:s.size ≤ 9223372036854775807) :
  Calls Tryz.prog 65 #[.string s,.string ⟨#[97,98,99,100,101,102,103,104,105,106,107,108,109,110,111,112,113,114,115,116,117,118,119,120,121,122]⟩] w fun e w'=>(∃ r:ByteArray,e=.returned (.string r)∧(r.data.toList=[] ↔ s.data.toList.all isLetter=true))∧Below w.heap.size w w':=by
 have hcon:=Any.strings_Trim_laid Tryz.layTrim (by kernel_rfl) s ⟨#[97,98,99,100,101,102,103,104,105,106,107,108,109,110,111,112,113,114,115,116,117,118,119,120,121,122]⟩ w hs (by decide) (ascii_of_all (by decide))
 refine Calls.mono hcon fun e w' ⟨h1,h2⟩=>⟨⟨_,h1,?_⟩,h2⟩
 have h:=trim_nil s.data.toList lettersA
 show (Lib.trimS s.data.toList lettersA).toArray.toList=[] ↔ _
 rw [List.toList_toArray,h,List.all_eq_true]
 exact ⟨fun h x hx=>by rw [← letter_iff];exact h x hx,fun h x hx=>by rw [letter_iff];exact h x hx⟩
end Go.Proofs.YtednjmldjbndhaaGreatDoor
namespace Go.Proofs.YtednjmldjbndhaaGreatDoor
open Go.RowKit
theorem isLetter_iff (b:UInt8) (c:Int) (h:(b.toNat:Int)=c):isLetter b=(decide (97 ≤ c) && decide (c ≤ 122)):=by
 subst h
 unfold isLetter
 rw [decide_eq_decide.2 (show 97 ≤ b.toNat ↔ (97:Int) ≤ (b.toNat:Int) by omega),decide_eq_decide.2 (show b.toNat ≤ 122 ↔ (b.toNat:Int) ≤ 122 by omega)]
theorem l33Title_c (s:ByteArray) (w:World) (hsz:s.size ≤ 1048576):Calls Tryz.prog 70 #[.string s] w fun e w'=>e=.returned (.bool (titleB s))∧w=w':=by
 obtain ⟨L,hL,hR,hg⟩:∃ L:List UInt8,L.length=s.size∧titleB s=(inB s.size 1 12 && L.all isLetter)∧∀ (k:Nat) (h:k < s.size) (h2:k < L.length),L[k]=s[k] :=
  ⟨s.data.toList,by rw [Array.length_toList];rfl,rfl,fun k h h2=>by rfl⟩
 have HI:=Lib.hid (fun W=>l01In_c (s.size:Int) 1 12 W)
 replace hR:=Lib.hid hR
 replace hg:=Lib.hid hg
 replace hL:=Lib.hid hL
 go_enter Tryz.func70,Tryz.ntmps70
 go_wp2_with fail
 go_loop [3] (fun i=>∃ k:Nat,k ≤ s.size∧i=.int .i64 k∧Hid ((L.take k).all isLetter=true)) (fun i=>s.size - (intOf i).toNat)
 case atStart=>exact ⟨0,Nat.zero_le _,rfl,(show (L.take 0).all isLetter=true from by simp)⟩
 case round =>
  obtain ⟨k,hk,rfl,hn⟩:=hrel
  by_cases hlt:k < s.size
  ·have hlL:k < L.length:=by have:=hL.out;omega
   have hnx:=take_all_succ (p:=isLetter) (F:=L) hlL
   have hbad:isLetter L[k]=false→L.all isLetter=false:=fun h=>by
    rw [List.all_eq_false]
    exact ⟨L[k],List.getElem_mem hlL,by rw [h];simp⟩
   have hLk:=hg.out k hlt hlL
   generalize hch:(s[k].toNat:Int)=ch at *
   have hil:=isLetter_iff (L[k]) ch (by rw [hLk];exact hch)
   rw [hn.out,Bool.true_and] at hnx
   rw [hil] at hnx hbad
   clear hil hLk
   replace hnx:=Lib.hid hnx
   replace hbad:=Lib.hid hbad
   by_cases h1:ch < 97
   ·have d1:decide (ch < 97)=true:=decide_eq_true h1
    have hx:decide (97 ≤ ch)=false:=decide_eq_false (by omega)
    have hb:Hid (L.all isLetter=false):=Lib.hid (hbad.out (by rw [hx];rfl))
    clear hx hbad hnx
    go_wp2
    go_ret
    exact ⟨by rw [hR.out,hb.out,Bool.and_false];rfl,rfl⟩
   ·have d1:decide (ch < 97)=false:=decide_eq_false h1
    have hx1:decide (97 ≤ ch)=true:=decide_eq_true (by omega)
    by_cases h2:122 < ch
    ·have d2:decide (122 < ch)=true:=decide_eq_true h2
     have hx:decide (ch ≤ 122)=false:=decide_eq_false (by omega)
     have hb:Hid (L.all isLetter=false):=Lib.hid (hbad.out (by rw [hx,Bool.and_false]))
     clear hx hx1 hbad hnx
     go_wp2
     go_ret
     exact ⟨by rw [hR.out,hb.out,Bool.and_false];rfl,rfl⟩
    ·have d2:decide (122 < ch)=false:=decide_eq_false h2
     have hx:decide (ch ≤ 122)=true:=decide_eq_true (by omega)
     have hn2:Hid ((L.take (k+1)).all isLetter=true):=Lib.hid (by rw [hnx.out,hx1,hx];rfl)
     clear hx hx1 hbad hnx
     go_wp2
     go_round
     case rel=>exact ⟨k+1,by omega,by go_num,hn2⟩
     case measure=>simp [intOf];omega
  ·have:k=s.size:=by omega
   subst this
   have hb:Hid (L.all isLetter=true):=Lib.hid (by have:=hn.out;rwa [← hL.out,List.take_length] at this)
   go_wp2_with (go_at_call 71;refine Calls.mono (HI.out _) ?_;rintro e w1 ⟨rfl,rfl⟩)
   go_ret
   exact ⟨by rw [hR.out,hb.out,Bool.and_true];rfl,rfl⟩
end Go.Proofs.YtednjmldjbndhaaGreatDoor
namespace Go.Proofs.YtednjmldjbndhaaGreatDoor
open Go.RowKit
def PredEn (g:FuncId) (lb:Array Value) (p:EnR→Bool) (l:List EnR) (w:World):Prop :=
 ∀ (x:EnR),x ∈ l→∀ (W:World),Below w.heap.size w W→Calls Tryz.prog g (#[.agg x.cells.toArray] ++ lb) W fun e w'=>e=.returned (.bool (p x))∧Below W.heap.size W w'
def IdxPostEn (p:EnR→Bool) (l:List EnR) (w:World) (e:Ending) (w':World):Prop :=
 ∃ r:Int,e=.returned (.int .i64 r)∧decide (0 ≤ r)=l.any p∧Below w.heap.size w w'
theorem indexFuncEn_c (A:Option Addr) (c:Nat) (l:List EnR) (g:FuncId) (lb:Array Value) (p:EnR→Bool) (w:World)
  (eg:∀ args w,(callFunc g args).run Tryz.prog w=.ok (.enter g args) w) (hp:PredEn g lb p l w) (hl:l.length ≤ 140737488351232) (hs:Sl w w.heap.size 20 A (l.map EnR.cells)) :
  Calls Tryz.prog 102 #[.slice A l.length c,.func (.func g) #[] lb] w (IdxPostEn p l w):=by
 go_enter Tryz.func102,Tryz.ntmps102
 go_wp2_with fail
 go_loopw [8] (fun i wr=>∃ k:Nat,k ≤ l.length∧i=.int .i64 k∧Below w.heap.size w wr∧Hid ((l.take k).any p=false)) (fun i _=>l.length - (intOf i).toNat)
 case atStart=>exact ⟨0,Nat.zero_le _,rfl,Below.refl _ _,(show (l.take 0).any p=false from by simp)⟩
 case round =>
  obtain ⟨k,hk,rfl,hb,hn⟩:=hrel
  by_cases hlt:k < l.length
  ·obtain ⟨b,off,rfl,hbB,hc⟩:=hs.rg (i:=k) (by simpa using hlt)
   simp only [List.getElem_map] at hc
   replace hc:=rangeAt_below hc hb hbB
   have hcl:l[k].cells.length=20:=rfl
   have hcall:=hp l[k] (List.getElem_mem hlt) wr hb
   have hnx:(l.take (k+1)).any p=((l.take k).any p || p l[k]):=by rw [List.take_succ_eq_append_getElem hlt,List.any_append];simp
   have hnx:=Lib.hid hnx
   clear hp
   cases hq:p l[k] with
   | true =>
    have hq':=Lib.hid hq
    rw [hq] at hcall
    generalize hcs:l[k].cells=cs at *
    clear hcs
    have hcall:=Lib.hid hcall
    clear hq
    go_wp2_with (first | (refine wpList_load_mid rfl 35 _ rfl (b) (off+k * 20) rfl (cs) _ hc Tryz.underlying35 rfl (by kernel_rfl) ?_) | (go_at_fn g;refine hcall.out.mono ?_;rintro e w1 ⟨rfl,hb1⟩))
    go_ret
    refine ⟨k,rfl,?_,hb.trans (hb1.mono hb.size)⟩
    rw [show l.any p=true from List.any_eq_true.2 ⟨l[k],List.getElem_mem hlt,hq'.out⟩]
    simp
   | false =>
    have hq':=Lib.hid hq
    rw [hq] at hcall
    generalize hcs:l[k].cells=cs at *
    clear hcs
    have hcall:=Lib.hid hcall
    clear hq
    go_wp2_with (first | (refine wpList_load_mid rfl 35 _ rfl (b) (off+k * 20) rfl (cs) _ hc Tryz.underlying35 rfl (by kernel_rfl) ?_) | (go_at_fn g;refine hcall.out.mono ?_;rintro e w1 ⟨rfl,hb1⟩))
    go_roundw
    case rel=>exact ⟨k+1,by omega,by go_num,hb.trans (hb1.mono hb.size),(show _=false from by rw [hnx.out,hn.out,hq'.out];rfl)⟩
    case measure=>simp [intOf];omega
  ·have:k=l.length:=by omega
   subst this
   go_wp2
   go_ret
   refine ⟨-1,rfl,?_,hb⟩
   have:=hn.out
   rw [List.take_length] at this
   rw [this]
   rfl
theorem containsFuncEn_c (A:Option Addr) (c:Nat) (l:List EnR) (g:FuncId) (lb:Array Value) (p:EnR→Bool) (w:World)
  (eg:∀ args w,(callFunc g args).run Tryz.prog w=.ok (.enter g args) w) (hp:PredEn g lb p l w) (hl:l.length ≤ 140737488351232) (hs:Sl w w.heap.size 20 A (l.map EnR.cells)) :
  Calls Tryz.prog 67 #[.slice A l.length c,.func (.func g) #[] lb] w fun e w'=>e=.returned (.bool (l.any p))∧Below w.heap.size w w':=by
 have H:=Lib.hid (indexFuncEn_c A c l g lb p w eg hp hl hs)
 clear hp hs eg
 go_enter Tryz.func67,Tryz.ntmps67
 go_wp2_with fail
 refine H.out.mono ?_
 rintro e w1 ⟨r,rfl,hr,hb⟩
 go_wp2
 go_ret
 exact ⟨rfl,hb⟩
end Go.Proofs.YtednjmldjbndhaaGreatDoor
namespace Go.Proofs.YtednjmldjbndhaaGreatDoor
open Go.RowKit
def sameTV (x e:En):Bool:=(x.ti.toList == e.ti.toList) && (x.ve == e.ve)
theorem sameTV_c (x e:En) (B:Option Addr) (d:Nat) (g:Nat) (w:World) (hg:g < w.heap.size) (h0:w.cell? ⟨g,0,none⟩=some (.string e.ti)) (h1:w.cell? ⟨g,1,none⟩=some (.int .i64 e.ve)) :
  Calls Tryz.prog 68 #[.agg (x.cells B d).toArray,.pointer (some ⟨g,0,none⟩)] w fun r w'=>r=.returned (.bool (sameTV x e))∧Below w.heap.size w w':=by
 have hW:Below w.heap.size w (w.alloc (.cells (x.cells B d).toArray 35)):=(by repeat first | with_reducible (first | exact Below.refl _ _ | apply below_drewN' | apply Below.drew | refine Below.alloc ?_ ?_ _ | refine Below.setCell ?_ ?_ _) | exact Below.refl _ _ | omega | (simp <;> omega) | (have:=(Below.refl _ _).size;first | omega | (simp <;> omega)))
 have X:=Blk.new w 35 (x.cells B d).toArray
 have k0:(x.cells B d).toArray[0]?=some (.string x.ti):=rfl
 have k1:(x.cells B d).toArray[1]?=some (.int .i64 x.ve):=rfl
 have z0:(w.alloc (.cells (x.cells B d).toArray 35)).cell? ⟨g,0,none⟩=some (.string e.ti):=by rw [hW.cell (p:=⟨g,0,none⟩) hg];exact h0
 have z1:(w.alloc (.cells (x.cells B d).toArray 35)).cell? ⟨g,1,none⟩=some (.int .i64 e.ve):=by rw [hW.cell (p:=⟨g,1,none⟩) hg];exact h1
 have y0:(w.alloc (.cells (x.cells B d).toArray 35)).cell? ⟨w.heap.size,0,none⟩=some (.string x.ti):=X.en.1
 have y1:(w.alloc (.cells (x.cells B d).toArray 35)).cell? ⟨w.heap.size,1,none⟩=some (.int .i64 x.ve):=X.en.2.1
 have hR:Hid (sameTV x e=((x.ti.toList == e.ti.toList) && (x.ve == e.ve))):=rfl
 generalize sameTV x e=res at *
 generalize (x.cells B d).toArray=ca at *
 cases hq:(x.ti.toList == e.ti.toList)
 all_goals
  rw [hq] at hR
  go_enter Tryz.func68,Tryz.ntmps68
  go_wp2
  go_ret
  exact ⟨by rw [hR.out];rfl,hW⟩
end Go.Proofs.YtednjmldjbndhaaGreatDoor
namespace Go.Proofs.YtednjmldjbndhaaGreatDoor
open Go.RowKit
def basisBad (l:List En) (e:En):Bool:=decide (0 ≤ e.ba) && (match l[e.ba.toNat]? with | some x=>(x.ti.toList == e.ti.toList) && decide (e.ve ≤ x.ve) | none=>false)
def entB (l:List En) (e:En):Bool:=titleB e.ti && inB e.ve 1 1000 && e.r.b && inB e.ba (-1) ((l.length:Int) - 1) && !basisBad l e && !l.any (fun x=>sameTV x e)
def entAt (l:List En) (k:Nat):Bool:=match l[k]? with | some e=>entB (l.take k) e | none=>true
def catTo (l:List En) (k:Nat):Bool:=(List.range k).all (entAt l)
def catB (l:List En):Bool:=catTo l l.length && decide (l.length ≤ 12)
theorem catTo_succ (l:List En) (k:Nat):catTo l (k+1)=(catTo l k && entAt l k):=by
 unfold catTo
 rw [List.range_succ,List.all_append]
 simp
theorem entAt_get {l:List En} {k:Nat} (h:k < l.length):entAt l k=entB (l.take k) l[k]:=by
 unfold entAt
 rw [List.getElem?_eq_getElem h]
theorem catTo_bad {l:List En} {k n:Nat} (h:entAt l k=false) (hk:k < n):catTo l n=false:=by
 unfold catTo
 rw [List.all_eq_false]
 exact ⟨k,List.mem_range.2 hk,by rw [h];simp⟩
theorem catB_bad {l:List En} {k:Nat} (h:entAt l k=false) (hk:k < l.length):catB l=false:=by
 unfold catB
 rw [catTo_bad h hk]
 rfl
theorem catB_all {l:List En} (h:catTo l l.length=true):catB l=decide (l.length ≤ 12):=by
 unfold catB
 rw [h,Bool.true_and]
theorem catB_len {l:List En} (h:catB l=true):l.length ≤ 12:=by
 unfold catB at h
 simp only [Bool.and_eq_true,decide_eq_true_eq] at h
 exact h.2
theorem ens_len (es:List EnR):(ens es).length=es.length:=by simp [ens]
theorem ens_take (es:List EnR) (k:Nat):ens (es.take k)=(ens es).take k:=by simp [ens,List.map_take]
theorem ens_get {es:List EnR} {k:Nat} (h:k < es.length):(ens es)[k]'(by rw [ens_len];exact h)=es[k].e:=by simp [ens]
theorem EnsIn.take {w:World} {A:Option Addr} {es:List EnR} (h:EnsIn w A es) (k:Nat):EnsIn w A (es.take k) :=
 ⟨by have:=h.n;rw [List.length_take];omega,by rw [List.map_take];exact h.s.take k,fun e he=>h.i e (List.mem_of_mem_take he)⟩
end Go.Proofs.YtednjmldjbndhaaGreatDoor
namespace Go.Proofs.YtednjmldjbndhaaGreatDoor
open Go.RowKit
theorem wpList_load_g {P:Program} {ops:Array Oper} {rest:List Oper} {op:Oper} {a:Act} {w:World} {Q:Exit→Act→World→Prop} (hw:Region.wanted op (yielded ops a.tmps)=true) (ty:TypeId) (x:Operand) (ho:op.op=.load ty x)
  (b o:Nat) (hx:a.eval x=.pointer (some ⟨b,o,none⟩)) (cs:List Value) (d:TypeDesc) (hc:w.rangeAt b o cs)
  (hu:P.underlying ty=some d) (hd:d.isRow=true) (hi:(P.info? ty).map (·.size)=some cs.length)
  (h:wpList P ops Q rest (a.put op.dst (.agg cs.toArray)) w):wpList P ops Q (op :: rest) a w :=
 wpList_step fun _ hK=>by
  rw [if_pos hw]
  exact wp_load_mid ty x ho b o hx cs d hc hu hd hi (hK _ _ h)
end Go.Proofs.YtednjmldjbndhaaGreatDoor
namespace Go.Proofs.YtednjmldjbndhaaGreatDoor
open Go.RowKit
theorem samePred (es:List EnR) (e:En) (g:Nat) (w:World) (hg:g < w.heap.size) (h0:w.cell? ⟨g,0,none⟩=some (.string e.ti)) (h1:w.cell? ⟨g,1,none⟩=some (.int .i64 e.ve)) :
  PredEn 68 #[.pointer (some ⟨g,0,none⟩)] (fun y=>sameTV y.e e) es w:=fun y _ W hW =>
 sameTV_c y.e e y.A y.c g W (Nat.lt_of_lt_of_le hg hW.size) ((hW.cell (p:=⟨g,0,none⟩) hg).trans h0) ((hW.cell (p:=⟨g,1,none⟩) hg).trans h1)
theorem neEmpty {r:ByteArray} (h:r.data.toList ≠ []):(r.toList == [])=false:=by
 have:r.toList ≠ []:=by rw [ByteArray.toList_eq];exact h
 cases hr:r.toList with
 | nil=>exact absurd hr this
 | cons a l=>rfl
theorem isEntry_c (A:Option Addr) (c:Nat) (es:List EnR) (e:En) (B:Option Addr) (d:Nat) (w:World) (E:EnsIn w A es) (X:EnIn w B d e) :
  Calls Tryz.prog 39 #[.slice A es.length c,.agg (e.cells B d).toArray] w fun x w'=>x=.returned (.bool (entB (ens es) e))∧Below w.heap.size w w':=by
 have hW:Below w.heap.size w (w.alloc (.cells (e.cells B d).toArray 35)):=(by repeat first | with_reducible (first | exact Below.refl _ _ | apply below_drewN' | apply Below.drew | refine Below.alloc ?_ ?_ _ | refine Below.setCell ?_ ?_ _) | exact Below.refl _ _ | omega | (simp <;> omega) | (have:=(Below.refl _ _).size;first | omega | (simp <;> omega)))
 have B0:=Blk.new w 35 (e.cells B d).toArray
 have hR:Hid (entB (ens es) e=(titleB e.ti && inB e.ve 1 1000 && e.r.b && inB e.ba (-1) ((es.length:Int) - 1) && !basisBad (ens es) e && !es.any (fun x=>sameTV x.e e))):=Lib.hid (by unfold entB;rw [ens_len];unfold ens;rw [List.any_map];rfl)
 have hT:Hid (titleB e.ti=(inB e.ti.size 1 12 && e.ti.data.toList.all isLetter)):=Lib.hid rfl
 have HT:=Lib.hid (fun W=>trimTitle_c e.ti W (by have:=X.t;omega))
 have HV:=Lib.hid (fun W=>within_c e.ve 1 1000 W)
 have HI:=Lib.hid (fun W=>within_c e.ba (-1) ((es.length:Int) - 1) W)
 have HL:=Lib.hid (fun W (hW:Below w.heap.size w W)=>implIsRl_c e.r B d W (X.r.later hW))
 have HC:=Lib.hid (fun W (hW:Below w.heap.size w W) g hg h0 h1=>containsFuncEn_c A c es 68 #[.pointer (some ⟨g,0,none⟩)] (fun y=>sameTV y.e e) W (enters_of Tryz.func68 (by kernel_rfl) rfl) (samePred es e g W hg h0 h1) (by have:=E.n;omega) ((E.s.below hW).more hW.size))
 have HB:Hid (∀ W,Blk W w.heap.size 35 (e.cells B d).toArray→W.cell? ⟨w.heap.size,0,none⟩=some (.string e.ti)∧W.cell? ⟨w.heap.size,1,none⟩=some (.int .i64 e.ve)∧W.rangeAt w.heap.size 2 (e.r.cells B d)∧W.cell? ⟨w.heap.size,19,none⟩=some (.int .i64 e.ba)):=Lib.hid (fun W h=>h.en)
 have hX:=X.t
 have hn:=E.n
 have hlen:(e.r.cells B d).length=17:=rfl
 clear X
 generalize entB (ens es) e=res at *
 generalize titleB e.ti=tb at *
 generalize e.r.cells B d=rc at *
 generalize (e.cells B d).toArray=ec at *
 generalize e.r.b=rb at *
 generalize e.ti.data.toList.all isLetter=lb at *
 generalize hve:e.ve=ve at *
 have hve:=Lib.hid hve
 by_cases h1:(e.ti.size:Int) < 1
 ·have hin:Hid (inB e.ti.size 1 12=false):=Lib.hid (inB_false.2 (by omega))
  obtain ⟨x0,x1,x2,x3⟩:=HB.out _ B0
  go_enter Tryz.func39,Tryz.ntmps39
  go_wp2
  go_ret
  exact ⟨by rw [hR.out,hT.out,hin.out];rfl,hW⟩
 by_cases h2:12 < (e.ti.size:Int)
 ·have hin:Hid (inB e.ti.size 1 12=false):=Lib.hid (inB_false.2 (by omega))
  obtain ⟨x0,x1,x2,x3⟩:=HB.out _ B0
  go_enter Tryz.func39,Tryz.ntmps39
  go_wp2
  go_ret
  exact ⟨by rw [hR.out,hT.out,hin.out];rfl,hW⟩
 replace hT:Hid (tb=lb):=Lib.hid (by rw [hT.out,inB_true.2 (by omega),Bool.true_and])
 obtain ⟨x0,x1,x2,x3⟩:=HB.out _ B0
 go_enter Tryz.func39,Tryz.ntmps39
 go_wp2_with fail
 refine Calls.mono (HT.out _) ?_;rintro x w1 ⟨⟨r,rfl,hr⟩,hb1⟩
 clear x0 x1 x2 x3 HT
 replace B0:=B0.below hb1 B0.lt
 replace hW:=hW.trans (hb1.mono hW.size)
 clear hb1
 obtain ⟨x0,x1,x2,x3⟩:=HB.out _ B0
 cases lb with
 | false =>
  have hne:=neEmpty (r:=r) (fun h=>by have:=hr.1 h;cases this)
  clear hr
  go_wp2
  refine bodyPost_ret (v:=.bool false) (by simp [results,Tryz.results39,go_sem]) rfl ?_
  exact ⟨by rw [hR.out,hT.out];rfl,hW⟩
 | true =>
 have hr0:r.toList=[]:=by rw [ByteArray.toList_eq];exact hr.2 rfl
 clear hr
 replace hR:=Lib.hid (hR.out.trans (by rw [hT.out,Bool.true_and]))
 clear hT
 cases hv:inB ve 1 1000 with
 | false =>
  replace HV:=Lib.hid (fun W=>by have h:=HV.out W;rwa [hv] at h)
  replace hR:=Lib.hid (hR.out.trans (by rw [hv]))
  clear hv
  go_wp2_with (go_at_call 66;refine Calls.mono (HV.out _) ?_;rintro x w3 ⟨rfl,rfl⟩)
  go_ret
  exact ⟨by rw [hR.out];rfl,hW⟩
 | true =>
 replace HV:=Lib.hid (fun W=>by have h:=HV.out W;rwa [hv] at h)
 replace hR:=Lib.hid (hR.out.trans (by rw [hv,Bool.true_and]))
 clear hv
 go_wp2_with (first | (go_at_call 66;refine Calls.mono (HV.out _) ?_;rintro x w3 ⟨rfl,rfl⟩) | (refine wpList_load_g (by rfl) 33 _ rfl w.heap.size 2 rfl rc _ x2 Tryz.underlying33 rfl (by rw [hlen];kernel_rfl) ?_) | fail)
 refine Calls.mono (HL.out _ hW) ?_;rintro x w2 ⟨rfl,hb1⟩
 clear x0 x1 x2 x3 HL HV
 replace B0:=B0.below hb1 B0.lt
 replace hW:=hW.trans (hb1.mono hW.size)
 clear hb1
 obtain ⟨x0,x1,x2,x3⟩:=HB.out _ B0
 cases rb with
 | false =>
  go_wp2
  go_ret
  exact ⟨by rw [hR.out];rfl,hW⟩
 | true =>
 replace hR:=Lib.hid (hR.out.trans (by rw [Bool.true_and]))
 have hwr:IntKind.i64.wrap ((es.length:Int) - 1)=(es.length:Int) - 1:=IntWalk.i64_in _ (by omega)
 cases hi:inB e.ba (-1) ((es.length:Int) - 1) with
 | false =>
  replace HI:=Lib.hid (fun W=>by have h:=HI.out W;rwa [hi] at h)
  replace hR:=Lib.hid (hR.out.trans (by rw [hi]))
  clear hi
  go_wp2_with (go_at_call 66;refine Calls.mono (HI.out _) ?_;rintro x w3 ⟨rfl,rfl⟩)
  go_ret
  exact ⟨by rw [hR.out];rfl,hW⟩
 | true =>
 replace HI:=Lib.hid (fun W=>by have h:=HI.out W;rwa [hi] at h)
 replace hR:=Lib.hid (hR.out.trans (by rw [hi,Bool.true_and]))
 have hbd:=inB_true.1 hi
 clear hi
 go_wp2_with (first | (go_at_call 66;refine Calls.mono (HI.out _) ?_;rintro x w3 ⟨rfl,rfl⟩) | fail)
 clear HI hwr
 by_cases h0:(0:Int) ≤ e.ba
 ·obtain ⟨j,hj⟩:∃ j:Nat,e.ba=(j:Int):=⟨e.ba.toNat,by omega⟩
  have hjl:j < es.length:=by omega
  have hbb:Hid (basisBad (ens es) e=((es[j].e.ti.toList == e.ti.toList) && decide (ve ≤ es[j].e.ve))):=Lib.hid (by
   unfold basisBad
   rw [hve.out,hj,decide_eq_true (by omega:(0:Int) ≤ (j:Int)),Bool.true_and,Int.toNat_natCast,List.getElem?_eq_getElem (by rw [ens_len];exact hjl),ens_get hjl])
  obtain ⟨b,off,rfl,hbB,hc⟩:=E.s.at_ (i:=j) (by simpa using hjl)
  simp only [List.getElem_map] at hc
  have y0:w2.cell? ⟨b,off+j * 20,none⟩=some (.string es[j].e.ti):=(hW.cell (p:=⟨b,off+j * 20,none⟩) hbB).trans (by simpa using hc 0 _ rfl)
  have y1:w2.cell? ⟨b,off+j * 20+1,none⟩=some (.int .i64 es[j].e.ve):=(hW.cell (p:=⟨b,off+j * 20+1,none⟩) hbB).trans (by simpa using hc 1 _ rfl)
  clear hc E
  rw [hj] at x3
  have hj1:(j:Int) < (es.length:Int):=by omega
  have hj0:(0:Int) ≤ (j:Int):=by omega
  have d0:decide ((j:Int) ≥ 0)=true:=decide_eq_true (by omega)
  have d1:decide ((0:Int) ≤ (j:Int))=true:=decide_eq_true (by omega)
  have HB':Hid (∀ W,Blk W w.heap.size 35 ec→W.cell? ⟨w.heap.size,0,none⟩=some (.string e.ti)∧W.cell? ⟨w.heap.size,1,none⟩=some (.int .i64 ve)∧W.rangeAt w.heap.size 2 rc∧W.cell? ⟨w.heap.size,19,none⟩=some (.int .i64 e.ba)):=HB
  generalize es[j].e.ti=tj at *
  generalize es[j].e.ve=vj at *
  cases hq:(tj.toList == e.ti.toList) with
  | false =>
   replace hbb:=Lib.hid (hbb.out.trans (by rw [hq,Bool.false_and]))
   go_quiet (fail)
   refine then_world (R:=fun V=>Blk V w.heap.size 35 ec∧Below w.heap.size w V) ⟨B0,by first | exact below_drewN' hW _ | exact hW.drew | exact hW⟩ (fun V hV=>?_)
   clear x0 x1 x2 x3 hW B0
   obtain ⟨B0,hW⟩:=hV
   obtain ⟨x0,x1,x2,x3⟩:=HB.out _ B0
   have hcall:=Lib.hid (HC.out V hW w.heap.size B0.lt x0 x1)
   go_wp2_with fail
   refine Calls.mono hcall.out ?_;rintro x w4 ⟨rfl,hb4⟩
   go_wp2
   go_ret
   exact ⟨by rw [hR.out,hbb.out];rfl,hW.trans (hb4.mono hW.size)⟩
  | true =>
   by_cases hvv:ve ≤ vj
   ·have d2:decide (ve ≤ vj)=true:=decide_eq_true hvv
    have d3:decide (vj ≥ ve)=true:=decide_eq_true hvv
    replace hbb:=Lib.hid (hbb.out.trans (by rw [hq,d2,Bool.true_and]))
    go_quiet (fail)
    go_wp2
    go_ret
    exact ⟨by rw [hR.out,hbb.out];rfl,by first | exact below_drewN' hW _ | exact hW.drew | exact hW⟩
   ·have d2:decide (ve ≤ vj)=false:=decide_eq_false hvv
    have d3:decide (vj ≥ ve)=false:=decide_eq_false hvv
    replace hbb:=Lib.hid (hbb.out.trans (by rw [hq,d2,Bool.true_and]))
    go_quiet (fail)
    refine then_world (R:=fun V=>Blk V w.heap.size 35 ec∧Below w.heap.size w V) ⟨B0,by first | exact below_drewN' hW _ | exact hW.drew | exact hW⟩ (fun V hV=>?_)
    clear x0 x1 x2 x3 hW B0
    obtain ⟨B0,hW⟩:=hV
    obtain ⟨x0,x1,x2,x3⟩:=HB.out _ B0
    have hcall:=Lib.hid (HC.out V hW w.heap.size B0.lt x0 x1)
    go_wp2_with fail
    refine Calls.mono hcall.out ?_;rintro x w4 ⟨rfl,hb4⟩
    go_wp2
    go_ret
    exact ⟨by rw [hR.out,hbb.out];rfl,hW.trans (hb4.mono hW.size)⟩
 ·have hj:e.ba=-1:=by omega
  have hbb:Hid (basisBad (ens es) e=false):=Lib.hid (by
   unfold basisBad
   rw [hj]
   rfl)
  rw [hj] at x3
  go_quiet (fail)
  refine then_world (R:=fun V=>Blk V w.heap.size 35 ec∧Below w.heap.size w V) ⟨B0,by first | exact below_drewN' hW _ | exact hW.drew | exact hW⟩ (fun V hV=>?_)
  clear x0 x1 x2 x3 hW B0
  obtain ⟨B0,hW⟩:=hV
  obtain ⟨x0,x1,x2,x3⟩:=HB.out _ B0
  have hcall:=Lib.hid (HC.out V hW w.heap.size B0.lt x0 x1)
  go_wp2_with fail
  refine Calls.mono hcall.out ?_;rintro x w4 ⟨rfl,hb4⟩
  go_wp2
  go_ret
  exact ⟨by rw [hR.out,hbb.out];rfl,hW.trans (hb4.mono hW.size)⟩
end Go.Proofs.YtednjmldjbndhaaGreatDoor
namespace Go.Proofs.YtednjmldjbndhaaGreatDoor
open Go.RowKit
theorem run_slice_to {P:Program} (W:World) (t e:TypeId) (k:Nat) (ht:P.underlying t=some (.slice e)) (hz:∀ w,(Go.sizeOf e).run P w=.ok k w) (A:Option Addr) (n cap hi:Nat) (h:hi ≤ cap) :
  (Instr.slice t (.slice A n cap) none (some (.int .i64 (hi:Int))) none).run P W=.ok (.slice A hi cap) W:=by
 have ht':P.underlying t=some (.slice (P.elem t)):=by simp [Program.elem,ht]
 have he:P.elem t=e:=by simp [Program.elem,ht]
 rw [run_slice_h W t _ _ _ ht' .i64 _ (by omega) (by omega),he,hz]
 have hA:A.map (·.add (0 * k))=A:=by cases A <;> simp [Addr.add]
 simp only [Result.andThen,sliced,hA,Nat.sub_zero,Int.toNat_natCast,ite_self]
theorem implIsCat_c (A:Option Addr) (c:Nat) (es:List EnR) (w:World) (E:EnsIn w A es) (hc:es.length ≤ c) :
  Calls Tryz.prog 19 #[.slice A es.length c] w fun x w'=>x=.returned (.bool (catB (ens es)))∧Below w.heap.size w w':=by
 have hl:=E.n
 have hs:=E.s
 have hrun:Hid (∀ (k:Nat) W,k ≤ c→(Instr.slice 24 (.slice A es.length c) none (some (.int .i64 (k:Int))) none).run Tryz.prog W=.ok (.slice A k c) W):=Lib.hid (fun k W hk=>run_slice_to W 24 35 20 Tryz.underlying24 (fun _=>by kernel_rfl) A es.length c k hk)
 have HE:=Lib.hid (fun (k:Nat) (hk:k < es.length) W (hW:Below w.heap.size w W)=>isEntry_c A c (es.take k) es[k].e es[k].A es[k].c W ((E.take k).later hW) (EnIn.later (E.i es[k] (List.getElem_mem hk)) hW))
 have hat:=Lib.hid (fun (k:Nat) (hk:k < es.length)=>(entAt_get (l:=ens es) (k:=k) (by rw [ens_len];exact hk)).trans (by rw [← ens_take,ens_get hk]))
 have hcatE:Hid (catTo (ens es) es.length=true→catB (ens es)=decide (es.length ≤ 12)):=Lib.hid (fun h=>by rw [← ens_len es] at h ⊢;exact catB_all h)
 have hbadE:Hid (∀ k,entAt (ens es) k=false→k < es.length→catB (ens es)=false):=Lib.hid (fun k h hk=>catB_bad h (by rw [ens_len];exact hk))
 clear E
 go_enter Tryz.func19,Tryz.ntmps19
 go_wp2_with fail
 go_loopw [7] (fun i wr=>∃ k:Nat,k ≤ es.length∧i=.int .i64 k∧Below w.heap.size w wr∧Hid (catTo (ens es) k=true)) (fun i _=>es.length - (intOf i).toNat)
 case atStart=>exact ⟨0,Nat.zero_le _,rfl,Below.refl _ _,Lib.hid rfl⟩
 case round =>
  obtain ⟨k,hk,rfl,hb,hn⟩:=hrel
  by_cases hlt:k < es.length
  ·obtain ⟨b,off,rfl,hbB,hc'⟩:=hs.rg (i:=k) (by simpa using hlt)
   simp only [List.getElem_map] at hc'
   replace hc':=rangeAt_below hc' hb hbB
   have hnx:=Lib.hid ((catTo_succ (ens es) k).trans (by rw [hn.out,Bool.true_and]))
   have HK:=HE.out k hlt
   rw [← hat.out k hlt] at HK
   rw [show (es.take k).length=k by rw [List.length_take];omega] at HK
   have hcd:es[k].e.cells es[k].A es[k].c=es[k].cells:=rfl
   rw [hcd] at HK
   replace HK:=Lib.hid HK
   have hcl:es[k].cells.length=20:=rfl
   have hon:∀ v ∈ es[k].cells,v.oneCell'=true:=es[k].e.one es[k].A es[k].c
   have hbk:Hid (entAt (ens es) k=false→catB (ens es)=false):=Lib.hid (fun h=>hbadE.out k h hlt)
   have hrk:=Lib.hid (fun W=>hrun.out k W (by omega))
   generalize entAt (ens es) k=bk at *
   clear hcd hat HE
   generalize es[k].cells=cs at *
   have hbw:Below wr.heap.size wr (wr.alloc (.cells cs.toArray 35)):=(Below.refl _ _).alloc (Nat.le_refl _) _
   have D0:=Blk.new wr 35 cs.toArray
   go_wp2_with (first | (refine wpList_load_mid rfl 35 _ rfl (b) (off+k * 20) rfl (cs) _ hc' Tryz.underlying35 rfl (by kernel_rfl) ?_) | (refine wpList_store_new rfl _ _ rfl cs rfl rfl (by rw [hcl];kernel_rfl) (by rw [hcl];rfl) hon ?_) | fail)
   replace hb:=hb.trans (hbw.mono hb.size)
   clear hbw hc'
   generalize wr.alloc (.cells cs.toArray 35)=W at *
   generalize wr.heap.size=g at *
   refine wp_region_sink 5 (fun a0 fL bA v=>∃ v12 v13 v14 v15 v16:Value,bA=((((a0.put (some 12) v12).put (some 13) v13).put (some 14) v14).put (some 15) v15).put (some 16) v16∧(Below W.heap.size W v)∧(fL 0=true→v12=.slice (some ⟨b,off,none⟩) es.length c)∧(fL 1=true→v13=.int .i64 k)∧(fL 2=true→v14=.slice (some ⟨b,off,none⟩) k c)∧(fL 3=true→v15=.agg cs.toArray)∧(fL 4=true→v16=.bool bk)) (by kernel_rfl) (by decide +kernel) ?_ ?_ ?_
   ·exact ⟨_,_,_,_,_,put_more (put_more (put_more (put_more (put_more (rfl) 12) 13) 14) 15) 16,(Below.refl _ _).drew,nofun,nofun,nofun,nofun,nofun⟩
   ·rintro fL bA v ⟨v12,v13,v14,v15,v16,rfl,hS,q0,q1,q2,q3,q4⟩ i hi hf o ho hall
    simp only [Act.put,List.setIfInBounds_toArray,List.set_cons_zero,List.set_cons_succ]
    have hn:i=0 ∨ i=1 ∨ i=2 ∨ i=3 ∨ i=4:=by omega
    clear hi
    rcases hn with rfl | rfl | rfl | rfl | rfl
    ·obtain rfl:=Option.some.inj ho
     clear hall ho
     refine wpOp_step rfl (fun K hK=>?_)
     go_simp
     exact hK _ _ ⟨_,_,_,_,_,rfl,hS,fun _=>rfl,q1,q2,q3,q4⟩
    ·obtain rfl:=Option.some.inj ho
     clear hall ho
     refine wpOp_step rfl (fun K hK=>?_)
     go_simp
     exact hK _ _ ⟨_,_,_,_,_,rfl,hS,q0,fun _=>rfl,q2,q3,q4⟩
    ·obtain rfl:=Option.some.inj ho
     obtain rfl:=q0 (hall ⟨0,.data⟩ (by simp) rfl)
     obtain rfl:=q1 (hall ⟨1,.data⟩ (by simp) rfl)
     have hr:=hrk.out v
     clear hall ho
     refine wpOp_step rfl (fun K hK=>?_)
     go_simp
     exact hK _ _ ⟨_,_,_,_,_,rfl,hS,fun _=>rfl,fun _=>rfl,fun _=>rfl,q3,q4⟩
    ·obtain rfl:=Option.some.inj ho
     clear hall ho
     refine wpOp_step rfl (fun K hK=>?_)
     refine wp_load_mid 35 _ rfl g 0 rfl cs _ (D0.below hS D0.lt).range Tryz.underlying35 rfl (by rw [hcl];kernel_rfl) ?_
     exact hK _ _ ⟨_,_,_,_,_,rfl,hS,q0,q1,q2,fun _=>rfl,q4⟩
    ·obtain rfl:=Option.some.inj ho
     obtain rfl:=q2 (hall ⟨2,.data⟩ (by simp) rfl)
     obtain rfl:=q3 (hall ⟨3,.data⟩ (by simp) rfl)
     clear hall ho
     refine wpOp_step rfl (fun K hK=>?_)
     go_simp
     refine Calls.mono ((HK.out v (hb.trans (hS.mono hb.size)))) ?_;rintro e w1 ⟨rfl,hb1⟩
     go_simp
     exact hK _ _ ⟨_,_,_,_,_,rfl,hS.trans (hb1.mono hS.size),q0,q1,fun _=>rfl,fun _=>rfl,fun _=>rfl⟩
   ·rintro fL bA v ⟨v12,v13,v14,v15,v16,rfl,hS,q0,q1,q2,q3,q4⟩ hall
    simp only [Act.put,List.setIfInBounds_toArray,List.set_cons_zero,List.set_cons_succ]
    obtain rfl:=q0 (hall 0 (by omega))
    obtain rfl:=q1 (hall 1 (by omega))
    obtain rfl:=q2 (hall 2 (by omega))
    obtain rfl:=q3 (hall 3 (by omega))
    obtain rfl:=q4 (hall 4 (by omega))
    clear hall
    simp only [List.drop_succ_cons,List.drop_zero]
    have hbv:=hb.trans (hS.mono hb.size)
    clear hrk HK hS hrun
    cases bk with
    | false =>
     have hr:=Lib.hid (hbk.out rfl)
     go_wp2
     go_ret
     exact ⟨by rw [hr.out];rfl,hbv⟩
    | true =>
     go_wp2
     go_roundw
     case rel=>exact ⟨k+1,by omega,by go_num,hbv,hnx⟩
     case measure=>simp [intOf];omega
  ·have:k=es.length:=by omega
   subst this
   have hr:=Lib.hid (hcatE.out hn.out)
   clear hcatE hbadE hat HE hrun
   go_wp2
   go_ret
   exact ⟨by rw [hr.out,show decide (es.length ≤ 12)=decide ((es.length:Int) ≤ 12) from decide_eq_decide.2 (by omega)];rfl,hb⟩
end Go.Proofs.YtednjmldjbndhaaGreatDoor
