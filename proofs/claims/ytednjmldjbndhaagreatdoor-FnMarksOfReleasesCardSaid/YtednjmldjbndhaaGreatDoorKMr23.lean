/- A slice of the call's own, in the words of the library's sorts, there and back. No condition. Facts on library bodies of this program, as the kit's own tool writes them: every line is read off the program by the kernel. No condition. Titles: what sorts and struck doubles hold; slices of strings sorted and struck in memory. No condition. The origin of an entry and what is derived from one: the program's and the reference's. Conditions: the lengths. The titles of a catalogue, in plain words, and the program's Titles. Conditions: the lengths. -/
import Derived.Shelf.SlSortCmp.KitK
import Derived.Shelf.Lays
import Derived.Shelf.Sort.Plain
import Derived.Shelf.Slices.In.SortNone
import Derived.Shelf.Slices.CompactS
import Derived.Test.YtednjmldjbndhaaGreatDoorProg
import Derived.Test.YtednjmldjbndhaaGreatDoorKMr10
import Derived.Test.YtednjmldjbndhaaGreatDoorKMr20
import Derived.Test.YtednjmldjbndhaaGreatDoorKMr21
import Derived.Test.YtednjmldjbndhaaGreatDoorKMr8
set_option linter.unusedSimpArgs false
set_option linter.unusedVariables false
set_option maxRecDepth 100000
set_option maxHeartbeats 8000000
namespace Go.Proofs.YtednjmldjbndhaaGreatDoor
open Go.RowKit Go.Lib Go.Sort
section
variable {α : Type} [Inhabited α] {enc : α → List Value} {k : Nat}
theorem getT {l:List α} {i:Nat} (h:i < l.length):l.toArray[i]! = l[i]:=by
 rw [getElem!_pos _ i (by simpa using h)];simp
theorem flat_list (hk:∀ x,(enc x).length=k) (l:List α):(flatK enc k l.toArray).toList=(l.map enc).flatten:=by
 apply List.ext_getElem?
 intro t
 have hrows:∀ x ∈ l.map enc,x.length=k:=fun x hx=>by obtain ⟨y,_,rfl⟩:=List.mem_map.1 hx;exact hk y
 have hlen:(l.map enc).flatten.length=l.length * k:=by rw [flat_length hrows,List.length_map]
 by_cases ht:t < l.length * k
 ·have hk0:0 < k:=by
   rcases Nat.eq_zero_or_pos k with h0 | h0
   ·rw [h0] at ht;omega
   ·exact h0
  have h1:t / k < l.length:=(Nat.div_lt_iff_lt_mul hk0).2 ht
  have h2:t % k < (enc l[t / k]).length:=by rw [hk];exact Nat.mod_lt _ hk0
  have hf:=flat_get hrows (t / k) (t % k) (enc l[t / k]) (enc l[t / k])[t % k] (by simp [h1]) (List.getElem?_eq_getElem h2)
  rw [show t / k * k+t % k=t from by have:=Nat.div_add_mod t k;rw [Nat.mul_comm] at this;exact this] at hf
  rw [hf]
  unfold flatK
  simp only [Array.toList_map,Array.toList_range,List.getElem?_map,List.size_toArray]
  rw [List.getElem?_range ht]
  simp only [Option.map_some,Option.some.injEq]
  rw [getT h1,getElem!_pos (enc l[t / k]) (t % k) h2]
 ·rw [List.getElem?_eq_none (by simp [flatK];omega),List.getElem?_eq_none (by omega)]
theorem sort_heap {w w':World} {g off i:Nat} {d':Array α} (hs:SWK enc k w g off d' w') (hi:i < w.heap.size):w'.heap[i]?=if i=g then (w.heap[g]?).map (onCells (putCells id off (flatK enc k d'))) else w.heap[i]?:=by
 obtain ⟨n,os,rfl⟩:=hs
 unfold sortWorldK grow putRowK putRow mapBlock Sort.ahead
 simp only
 rw [Array.getElem?_append_left (by simpa using hi),Array.getElem?_modify]
 by_cases h:i=g
 ·subst h;simp
 ·rw [if_neg (Ne.symm h),if_neg h]
theorem sort_below {w w':World} {g off B:Nat} {d':Array α} (hB:B ≤ g) (hg:g < w.heap.size) (hs:SWK enc k w g off d' w'):RowKit.Below B w w':=by
 refine ⟨?_,?_,?_,hs.le,fun i hi=>?_⟩
 ·obtain ⟨n,os,rfl⟩:=hs;rfl
 ·obtain ⟨n,os,rfl⟩:=hs;rfl
 ·obtain ⟨n,os,rfl⟩:=hs;rfl
 ·rw [sort_heap hs (by omega),if_neg (by omega)]
theorem putCells_take {vs:List Value} (F:Array Value) (cur:Array Value) (hv:F.toList=vs) (h:F.size ≤ cur.size):(putCells id 0 F cur).toList.take F.size=vs:=by
 apply List.ext_getElem?
 intro t
 rw [List.getElem?_take,← hv]
 by_cases ht:t < F.size
 ·rw [if_pos ht]
  simp only [putCells,Array.getElem?_toList,Array.getElem?_mapIdx]
  rw [Array.getElem?_eq_getElem (show t < cur.size by omega),Array.getElem?_eq_getElem ht]
  simp only [Option.map_some,Nat.zero_le,Nat.zero_add,true_and,if_pos ht,Nat.sub_zero,id]
  rw [getElem!_pos F t ht]
 ·rw [if_neg ht,List.getElem?_eq_none (by simpa using ht)]
theorem own_sorted (hk:∀ x,(enc x).length=k) {w w':World} {base g n c:Nat} {e:TypeId} {l l':List α} (h:Own w base e k (.slice (some ⟨g,0,none⟩) n c) (l.map enc)) (hl:l'.length=l.length) (hs:SWK enc k w g 0 l'.toArray w') :
  Own w' base e k (.slice (some ⟨g,0,none⟩) n c) (l'.map enc):=by
 have hn:n=l.length:=by
  obtain ⟨A,c',hh,_⟩:=h.form
  simp only [Value.slice.injEq] at hh;simpa using hh.2.1
 have hF:=flat_list (enc:=enc) hk l'
 obtain ⟨h1,h2⟩:=h
 refine ⟨?_,fun x hx=>by obtain ⟨y,_,rfl⟩:=List.mem_map.1 hx;exact hk y⟩
 rcases h1.2 with ⟨h',_⟩ | ⟨g',cap',cur,hsl,hb,hh,hc,hm,hz,ht⟩
 ·simp at h'
 ·simp only [Value.slice.injEq,Option.some.injEq,Addr.mk.injEq,and_true] at hsl
  obtain ⟨rfl,_,rfl⟩:=hsl
  have hlt:g < w.heap.size:=by
   rcases Nat.lt_or_ge g w.heap.size with hlt | hge
   ·exact hlt
   ·rw [Array.getElem?_eq_none hge] at hh;cases hh
  have hlen:(flatK enc k l'.toArray).size=n * k:=by rw [size_flatK];simp [hl,hn]
  refine ⟨by rw [← hF];simp [hl],.inr ⟨g,c,putCells id 0 (flatK enc k l'.toArray) cur,?_,hb,?_,by simpa [hl] using hc,hm,by simpa [putCells] using hz,?_⟩⟩
  ·rw [List.length_map,hl,hn]
  ·rw [sort_heap hs hlt,if_pos rfl,hh];rfl
  ·have:=putCells_take (vs:=(l'.map enc).flatten) (flatK enc k l'.toArray) cur hF (by rw [hlen,hz];exact Nat.mul_le_mul_right _ (by simpa [hn] using hc))
   rw [hlen] at this
   rw [List.length_map,hl,← hn]
   exact this
end
end Go.Proofs.YtednjmldjbndhaaGreatDoor
namespace Go.Proofs.YtednjmldjbndhaaGreatDoor
open Go.Shelf
def Tryz.laySortS_ren:Go.Shelf.Ren:=⟨fun | 190=>61 | 125=>93 | 258=>92 | 128=>125 | 129=>126 | 302=>116 | 303=>117 | 304=>118 | 305=>119 | 306=>120 | 307=>121 | 308=>122 | 309=>123 | 310=>124 | 333=>139 | 329=>140 | 330=>141 | 334=>142 | 335=>143 | 336=>144 | 344=>156 | n=>n,fun | 31=>60 | 9=>9 | 3=>3 | 46=>109 | 0=>0 | 51=>139 | 53=>141 | 4=>4 | 183=>131 | 182=>130 | 131=>136 | 5=>5 | 218=>152 | 222=>156 | 228=>164 | 229=>165 | n=>n,fun | n=>n⟩
theorem Tryz.laySortS:Go.Proofs.Lays.n190 Tryz.prog Tryz.laySortS_ren:={
 mixed:=by kernel_rfl
 f125:=Tryz.func93.trans (congrArg some (by kernel_rfl))
 f128:=Tryz.func125.trans (congrArg some (by kernel_rfl))
 f129:=Tryz.func126.trans (congrArg some (by kernel_rfl))
 f190:=Tryz.func61.trans (congrArg some (by kernel_rfl))
 f258:=Tryz.func92.trans (congrArg some (by kernel_rfl))
 f302:=Tryz.func116.trans (congrArg some (by kernel_rfl))
 f303:=Tryz.func117.trans (congrArg some (by kernel_rfl))
 f304:=Tryz.func118.trans (congrArg some (by kernel_rfl))
 f305:=Tryz.func119.trans (congrArg some (by kernel_rfl))
 f306:=Tryz.func120.trans (congrArg some (by kernel_rfl))
 f307:=Tryz.func121.trans (congrArg some (by kernel_rfl))
 f308:=Tryz.func122.trans (congrArg some (by kernel_rfl))
 f309:=Tryz.func123.trans (congrArg some (by kernel_rfl))
 f310:=Tryz.func124.trans (congrArg some (by kernel_rfl))
 f329:=Tryz.func140.trans (congrArg some (by kernel_rfl))
 f330:=Tryz.func141.trans (congrArg some (by kernel_rfl))
 f333:=Tryz.func139.trans (congrArg some (by kernel_rfl))
 f334:=Tryz.func142.trans (congrArg some (by kernel_rfl))
 f335:=Tryz.func143.trans (congrArg some (by kernel_rfl))
 f336:=Tryz.func144.trans (congrArg some (by kernel_rfl))
 f344:=Tryz.func156.trans (congrArg some (by kernel_rfl))
 t0:=Tryz.underlying0
 a0:=Tryz.isAgg0
 z0:=Tryz.sizeOf0
 v0:=Tryz.zeroValue0
 t3:=Tryz.underlying3
 a3:=Tryz.isAgg3
 z3:=Tryz.sizeOf3
 v3:=Tryz.zeroValue3
 t4:=Tryz.underlying4
 a4:=Tryz.isAgg4
 z4:=Tryz.sizeOf4
 v4:=Tryz.zeroValue4
 t5:=Tryz.underlying5
 a5:=Tryz.isAgg5
 z5:=Tryz.sizeOf5
 v5:=Tryz.zeroValue5
 t9:=Tryz.underlying9
 a9:=Tryz.isAgg9
 z9:=Tryz.sizeOf9
 v9:=Tryz.zeroValue9
 t31:=Tryz.underlying60
 a31:=Tryz.isAgg60
 z31:=Tryz.sizeOf60
 v31:=Tryz.zeroValue60
 t46:=Tryz.underlying109
 a46:=Tryz.isAgg109
 z46:=Tryz.sizeOf109
 v46:=Tryz.zeroValue109
 t51:=Tryz.underlying139
 a51:=Tryz.isAgg139
 z51:=Tryz.sizeOf139
 v51:=Tryz.zeroValue139
 t53:=Tryz.underlying141
 a53:=Tryz.isAgg141
 z53:=Tryz.sizeOf141
 v53:=Tryz.zeroValue141
 t131:=Tryz.underlying136
 a131:=Tryz.isAgg136
 z131:=Tryz.sizeOf136
 v131:=Tryz.zeroValue136
 t182:=Tryz.underlying130
 a182:=Tryz.isAgg130
 z182:=Tryz.sizeOf130
 v182:=Tryz.zeroValue130
 t183:=Tryz.underlying131
 a183:=Tryz.isAgg131
 z183:=Tryz.sizeOf131
 v183:=Tryz.zeroValue131
 t218:=Tryz.underlying152
 a218:=Tryz.isAgg152
 z218:=Tryz.sizeOf152
 v218:=Tryz.zeroValue152
 t222:=Tryz.underlying156
 a222:=Tryz.isAgg156
 z222:=Tryz.sizeOf156
 v222:=Tryz.zeroValue156
 t228:=Tryz.underlying164
 a228:=Tryz.isAgg164
 z228:=Tryz.sizeOf164
 v228:=Tryz.zeroValue164
 t229:=Tryz.underlying165
 a229:=Tryz.isAgg165
 z229:=Tryz.sizeOf165
 v229:=Tryz.zeroValue165 }
def Tryz.layCompactS_ren:Go.Shelf.Ren:=⟨fun | 194=>62 | n=>n,fun | 31=>60 | 9=>9 | 3=>3 | 4=>4 | 0=>0 | n=>n,fun | n=>n⟩
theorem Tryz.layCompactS:Go.Proofs.Lays.n194 Tryz.prog Tryz.layCompactS_ren:={
 mixed:=by kernel_rfl
 f194:=Tryz.func62.trans (congrArg some (by kernel_rfl))
 t0:=Tryz.underlying0
 a0:=Tryz.isAgg0
 z0:=Tryz.sizeOf0
 v0:=Tryz.zeroValue0
 t3:=Tryz.underlying3
 a3:=Tryz.isAgg3
 z3:=Tryz.sizeOf3
 v3:=Tryz.zeroValue3
 t4:=Tryz.underlying4
 a4:=Tryz.isAgg4
 z4:=Tryz.sizeOf4
 v4:=Tryz.zeroValue4
 t9:=Tryz.underlying9
 a9:=Tryz.isAgg9
 z9:=Tryz.sizeOf9
 v9:=Tryz.zeroValue9
 t31:=Tryz.underlying60
 a31:=Tryz.isAgg60
 z31:=Tryz.sizeOf60
 v31:=Tryz.zeroValue60 }
end Go.Proofs.YtednjmldjbndhaaGreatDoor
namespace Go.Proofs.YtednjmldjbndhaaGreatDoor
open Go.Shelf Go.RowKit Go.Lib Go.Sort
section
variable {α : Type} {lt : α → α → Bool}
def LStrict (lt:α→α→Bool) (l:List α):Prop:=l.Pairwise fun x y=>lt x y=true
theorem strict_one (hS:SWO lt) (hT:∀ x y,lt x y=false→lt y x=false→x=y) {l m:List α} (hl:LStrict lt l) (hm:LStrict lt m) (h:∀ x,x ∈ l ↔ x ∈ m):l=m:=by
 have nd:∀ {k:List α},LStrict lt k→k.Nodup:=fun {k} hk=>hk.imp fun {x y} h e=>by subst e;rw [hS.irrefl] at h;cases h
 have hp:l.Perm m:=(List.perm_ext_iff_of_nodup (nd hl) (nd hm)).2 h
 have weak:∀ {k:List α},LStrict lt k→k.Pairwise fun x y=>(!lt y x)=true:=fun {k} hk=>hk.imp fun {x y} h=>by rw [SWO.asymmA hS h];rfl
 exact hp.eq_of_pairwise (fun x y _ _ h1 h2=>hT x y (by simpa using h2) (by simpa using h1)) (weak hl) (weak hm)
variable [Inhabited α] [DecidableEq α]
theorem compact_strict (hT:∀ x y,lt x y=false→lt y x=false→x=y) (hS:SWO lt) {zs:List α} (h:zs.Pairwise fun x y=>lt y x=false):LStrict lt (Lib.compact zs):=by
 unfold LStrict Lib.compact compactUpTo
 rw [List.pairwise_map]
 refine List.Pairwise.imp_of_mem ?_ (List.Pairwise.filter _ List.pairwise_lt_range)
 intro i j hi hj hij
 rw [List.mem_filter,List.mem_range] at hi hj
 have hw:∀ a b,a ≤ b→b < zs.length→lt zs.toArray[b]! zs.toArray[a]! = false:=fun a b hab hb=>by
  rcases Nat.lt_or_ge a b with hlt | hge
  ·rw [getElem!_pos _ b (by simpa using hb),getElem!_pos _ a (by simp;omega)]
   simpa using List.pairwise_iff_getElem.1 h a b (by omega) hb hlt
  ·have:a=b:=by omega
   subst this;exact hS.irrefl _
 have hk:=hj.2
 unfold keeps at hk
 have hk:=of_decide_eq_true hk
 have hne:zs.toArray[j]! ≠ zs.toArray[j - 1]!:=by
  rcases hk with hk | hk
  ·omega
  ·exact hk
 have h1:=hw (j - 1) j (by omega) hj.1
 have h2:=hw i (j - 1) (by omega) (by omega)
 cases h3:lt zs.toArray[i]! zs.toArray[j]!
 ·-- then the one before j is not less than j
  have h4:lt zs.toArray[j - 1]! zs.toArray[j]! = false:=hS.ntrans _ _ _ h2 h3
  exact absurd (hT _ _ h1 h4) hne
 ·rfl
theorem compact_mem {zs:List α} {x:α}:x ∈ Lib.compact zs ↔ x ∈ zs:=by
 unfold Lib.compact compactUpTo
 rw [List.mem_map]
 constructor
 ·rintro ⟨j,hj,rfl⟩
  rw [List.mem_filter,List.mem_range] at hj
  rw [getElem!_pos _ j (by simpa using hj.1)]
  simp
 ·intro hx
  obtain ⟨j,hj,rfl⟩:=List.getElem_of_mem hx
  have key:∀ j,j < zs.length→∃ a,a ∈ (List.range zs.length).filter (keeps zs.toArray)∧zs.toArray[a]! = zs.toArray[j]!:=by
   intro j
   induction j with
   | zero=>exact fun h=>⟨0,List.mem_filter.2 ⟨List.mem_range.2 h,by simp [keeps]⟩,rfl⟩
   | succ j ih =>
    intro h
    by_cases hk:keeps zs.toArray (j+1)=true
    ·exact ⟨j+1,List.mem_filter.2 ⟨List.mem_range.2 h,hk⟩,rfl⟩
    ·obtain ⟨a,ha,he⟩:=ih (by omega)
     refine ⟨a,ha,?_⟩
     unfold keeps at hk
     simp only [decide_eq_true_eq,not_or] at hk
     have:=Decidable.not_not.1 hk.2
     rw [he,this]
     simp
  obtain ⟨a,ha,he⟩:=key j hj
  exact ⟨a,ha,by rw [he,getElem!_pos _ j (by simpa using hj)];simp⟩
end
theorem totS (x y:List UInt8) (h1:ltStr x y=false) (h2:ltStr y x=false):x=y:=by
 simp only [ltStr,decide_eq_false_iff_not,List.not_lt] at h1 h2
 exact List.le_antisymm h2 h1
def sortS (l:List (List UInt8)):List (List UInt8):=l.mergeSort fun x y=>decide (x ≤ y)
theorem sortS_sorted (l:List (List UInt8)):(sortS l).Pairwise fun x y=>ltStr y x=false:=by
 have h:=List.pairwise_mergeSort (le:=fun x y:List UInt8=>decide (x ≤ y)) (fun a b c h1 h2=>by simp only [decide_eq_true_eq] at *;exact List.le_trans h1 h2) (fun a b=>by simp only [Bool.or_eq_true,decide_eq_true_eq];exact List.le_total a b) l
 exact h.imp fun h=>by simp only [decide_eq_true_eq] at h;simp only [ltStr,decide_eq_false_iff_not,List.not_lt];exact h
theorem sortS_perm (l:List (List UInt8)):(sortS l).Perm l:=List.mergeSort_perm _ _
theorem sortS_len (l:List (List UInt8)):(sortS l).length=l.length:=(sortS_perm l).length_eq
theorem compactS_len (l:List (List UInt8)):(Lib.compact l).length ≤ l.length:=by
 unfold Lib.compact compactUpTo
 rw [List.length_map]
 exact Nat.le_trans (List.length_filter_le _ _) (by simp)
theorem Own.prefix_ {w:World} {base:Nat} {e:TypeId} {k g n cap m:Nat} {xs:List (List Value)} (h:Own w base e k (.slice (some ⟨g,0,none⟩) n cap) xs) (hm:m ≤ n):Own w base e k (.slice (some ⟨g,0,none⟩) m cap) (xs.take m):=by
 have hn:n=xs.length:=by
  obtain ⟨A,c,hh,_⟩:=h.form
  simp only [Value.slice.injEq] at hh;exact hh.2.1
 obtain ⟨h1,h2⟩:=h
 refine ⟨?_,fun x hx=>h2 x (List.mem_of_mem_take hx)⟩
 have hlen:(xs.take m).length=m:=by rw [List.length_take];omega
 have hx2:∀ x ∈ xs.take m,x.length=k:=fun x hx=>h2 x (List.mem_of_mem_take hx)
 refine ⟨flat_length hx2,?_⟩
 rcases h1.2 with ⟨h',_⟩ | ⟨g',cap',cur,hs,hb,hh,hc,hmx,hz,ht⟩
 ·simp at h'
 ·simp only [Value.slice.injEq] at hs
  refine .inr ⟨g',cap',cur,by simp only [Value.slice.injEq];exact ⟨hs.1,hlen.symm,hs.2.2⟩,hb,hh,by omega,hmx,hz,?_⟩
  rw [hlen]
  have e1:xs.flatten=(xs.take m).flatten ++ (xs.drop m).flatten:=by rw [← List.flatten_append,List.take_append_drop]
  have e2:(xs.take m).flatten.length=m * k:=by rw [flat_length hx2,hlen]
  have t1:(cur.toList.take (xs.length * k)).take (m * k)=cur.toList.take (m * k):=by rw [List.take_take,Nat.min_eq_left (Nat.mul_le_mul_right _ (by omega))]
  rw [← t1,ht,e1,List.take_append_of_le_length (by omega),List.take_of_length_le (by omega)]
def sc (s:List UInt8):List Value:=[.string ⟨s.toArray⟩]
theorem sc_one {x:List (List UInt8)}:∀ y ∈ x.map sc,∀ u ∈ y,u.oneCell'=true:=fun y hy u hu=>by
 obtain ⟨n,_,rfl⟩:=List.mem_map.1 hy
 simp only [sc,List.mem_singleton] at hu
 subst hu
 rfl
theorem Sl.str {w:World} {B:Nat} {A:Option Addr} {l:List (List UInt8)} (h:Sl w B 1 A (l.map sc)) {i:Nat} (hi:i < l.length):∃ b off,A=some ⟨b,off,none⟩∧b < B∧w.cell? ⟨b,off+i,none⟩=some (.string ⟨l[i].toArray⟩):=by
 obtain ⟨b,off,hA,hB,hc⟩:=h.at_ (i:=i) (by simpa using hi)
 simp only [List.getElem_map] at hc
 exact ⟨b,off,hA,hB,by simpa using hc 0 _ rfl⟩
theorem own_holdsS {w:World} {base g n c:Nat} {e:TypeId} {l:List (List UInt8)} (h:Own w base e 1 (.slice (some ⟨g,0,none⟩) n c) (l.map sc)):Holds encStr w g 0 l.toArray:=by
 intro j hj
 have hj':j < l.length:=by simpa using hj
 obtain ⟨b,off,he,_,hc⟩:=h.sl.str hj'
 simp only [Option.some.injEq,Addr.mk.injEq,and_true] at he
 obtain ⟨rfl,rfl⟩:=he
 refine ⟨?_,h.frozen _⟩
 rw [hc,getT hj']
theorem putRow_str (w:World) (g off:Nat) (d:Array (List UInt8)):putRow encStr w g off d=putRowK sc 1 w g off d:=by
 unfold putRowK putRow
 congr 1
 funext c
 unfold putCells
 apply Array.ext_getElem?
 intro t
 rw [Array.getElem?_mapIdx,Array.getElem?_mapIdx,size_flatK]
 cases c[t]? with
 | none=>rfl
 | some v =>
  simp only [Option.map_some,Option.some.injEq,Nat.mul_one]
  by_cases h:off ≤ t∧t < off+d.size
  ·rw [if_pos h,if_pos h]
   have hlt:t - off < d.size:=by omega
   have e1:(flatK sc 1 d)[t - off]! = (sc d[(t - off) / 1]!)[(t - off) % 1]!:=by
    unfold flatK
    rw [getElem!_pos (Array.map _ (Array.range (d.size * 1))) (t - off) (by simpa using hlt)]
    simp
   rw [e1,Nat.div_one,Nat.mod_one]
   rfl
  ·rw [if_neg h,if_neg h]
theorem sortS_c (base:Nat) (A:Option Addr) (c:Nat) (l:List (List UInt8)) (w:World) (hl:l.length ≤ 1000000) (hO:Own w base 9 1 (.slice A l.length c) (l.map sc)) :
  Calls Tryz.prog 61 #[.slice A l.length c] w fun e w'=>e=.returned (.tuple #[])∧Own w' base 9 1 (.slice A l.length c) ((sortS l).map sc)∧RowKit.Below base w w':=by
 rcases hO.1.2 with ⟨hv,h0⟩ | ⟨g,cap,cur,hv,_⟩
 ·simp only [Value.slice.injEq] at hv
  obtain ⟨rfl,hl0,rfl⟩:=hv
  obtain rfl:l=[]:=List.eq_nil_of_length_eq_zero hl0
  have h:=Any.slices_Sort_string_none Tryz.laySortS none 0 w
  change Calls Tryz.prog 61 _ _ _ at h
  refine h.mono fun e w' ⟨he,hw⟩=>?_
  subst hw
  exact ⟨he,by simpa [sortS] using hO,RowKit.Below.refl _ _⟩
 ·simp only [Value.slice.injEq] at hv
  obtain ⟨rfl,_,rfl⟩:=hv
  have h:=Any.slices_Sort_string Tryz.laySortS g 0 c l w (own_holdsS hO) hO.block_ge.2 (by omega)
  change Calls Tryz.prog 61 _ _ _ at h
  refine h.mono fun e w' ⟨he,n,os,hw⟩=>?_
  have hS:SWK sc 1 w g 0 (sortS l).toArray w':=⟨n,os,by rw [hw,putRow_str];rfl⟩
  exact ⟨he,own_sorted (enc:=sc) (k:=1) (fun _=>rfl) hO (sortS_len l) hS,sort_below hO.block_ge.1 hO.block_ge.2 hS⟩
theorem compactS_c (base:Nat) (A:Option Addr) (c:Nat) (l:List (List UInt8)) (w:World) (hl:l.length ≤ 1000000) (hO:Own w base 9 1 (.slice A l.length c) (l.map sc)) :
  Calls Tryz.prog 62 #[.slice A l.length c] w fun e w'=>e=.returned (.slice A (Lib.compact l).length c)∧Own w' base 9 1 (.slice A (Lib.compact l).length c) ((Lib.compact l).map sc)∧RowKit.Below base w w':=by
 have hcap:l.length ≤ c:=hO.le_cap
 rcases hO.1.2 with ⟨hv,h0⟩ | ⟨g,cap,cur,hv,_⟩
 ·simp only [Value.slice.injEq] at hv
  obtain ⟨rfl,hl0,rfl⟩:=hv
  obtain rfl:l=[]:=List.eq_nil_of_length_eq_zero hl0
  have h:=Any.slices_Compact_string_empty Tryz.layCompactS none 0 w
  change Calls Tryz.prog 62 _ _ _ at h
  refine h.mono fun e w' ⟨he,hw⟩=>?_
  subst hw
  exact ⟨he,hO,RowKit.Below.refl _ _⟩
 ·simp only [Value.slice.injEq] at hv
  obtain ⟨rfl,_,rfl⟩:=hv
  have h:=Any.slices_Compact_string Tryz.layCompactS g 0 c l w (own_holdsS hO) (by omega) hcap
  change Calls Tryz.prog 62 _ _ _ at h
  refine h.mono fun e w' ⟨he,q,hw⟩=>?_
  have hlen:=compactS_len l
  have hS:SWK sc 1 w g 0 (Lib.compact l ++ List.replicate (l.length - (Lib.compact l).length) []).toArray w':=⟨q,#[],by rw [hw,putRow_str];unfold sortWorldK;rw [grow_empty]⟩
  have hO2:=own_sorted (enc:=sc) (k:=1) (fun _=>rfl) hO (by simp;omega) hS
  have hO3:=hO2.prefix_ (m:=(Lib.compact l).length) hlen
  rw [List.map_append,List.take_append_of_le_length (by simp),List.take_of_length_le (by simp)] at hO3
  exact ⟨he,hO3,sort_below hO.block_ge.1 hO.block_ge.2 hS⟩
end Go.Proofs.YtednjmldjbndhaaGreatDoor
namespace Go.Proofs.YtednjmldjbndhaaGreatDoor
open Go.RowKit
structure AppL (w:World) (e:TypeId) (xs:List (List Value)) (V:Value) (wr:World):Prop where
 hb:Below w.heap.size w wr
 o:Own wr w.heap.size e 1 V xs
section
variable {w : World} {e : TypeId} {xs ys : List (List Value)} {V V' : Value} {wr w2 : World}
theorem AppL.below (h:AppL w e xs V wr) (hb:Below wr.heap.size wr w2):AppL w e xs V w2:=⟨h.hb.trans (hb.mono h.hb.size),h.o.below hb⟩
theorem AppL.alloc (h:AppL w e xs V wr) (ob:Obj):AppL w e xs V (wr.alloc ob):=h.below ((Below.refl _ _).alloc (Nat.le_refl _) ob)
theorem AppL.app (h:AppL w e xs V wr) (hg:wr.grownBy w2 V.ownBlock) (h2:Own w2 w.heap.size e 1 V' (xs ++ ys)):AppL w e (xs ++ ys) V' w2:=⟨below_app h.hb hg h.hb.size h.o.ownGe,h2⟩
end
end Go.Proofs.YtednjmldjbndhaaGreatDoor
namespace Go.Proofs.YtednjmldjbndhaaGreatDoor
open Go.RowKit Go.Lib Go.Sort
def titles (l:List En):List (List UInt8):=l.map fun e=>e.ti.data.toList
def titR (l:List En):List (List UInt8):=if catB l=true then Lib.compact (sortS (titles l)) else []
def titC (l:List En):Int:=if catB l=true then 0 else 1
theorem titles_len (l:List En):(titles l).length=l.length:=by simp [titles]
theorem titR_len (l:List En):(titR l).length ≤ l.length:=by
 unfold titR
 split
 ·have:=compactS_len (sortS (titles l))
  rw [sortS_len,titles_len] at this
  exact this
 ·exact Nat.zero_le _
theorem titR_of {l:List En} (hv:catB l=true) {R:List (List UInt8)} (hs:LStrict ltStr R) (hm:∀ x,x ∈ R ↔ x ∈ titles l):R=titR l:=by
 unfold titR
 rw [if_pos hv]
 refine strict_one swo_ltStr totS hs (compact_strict totS swo_ltStr (sortS_sorted _)) fun x=>?_
 rw [hm,compact_mem,(sortS_perm _).mem_iff]
theorem info_Str:(Tryz.prog.info? 9).map (fun i=>(i.zero,i.size,i.bytes))=some (some (.string ⟨#[]⟩),1,16):=by kernel_rfl
theorem Sl.blkStr {w:World} {g:Nat} {t:TypeId} {x:ByteArray} (h:Blk w g t #[.string x]):Sl w (g+1) 1 (some ⟨g,0,none⟩) ([x.data.toList].map sc) :=
 Sl.of_blk h _ rfl (by intro y hy;simp only [List.map_cons,List.map_nil,List.mem_singleton] at hy;subst hy;rfl)
theorem implTitles_c (A:Option Addr) (c:Nat) (es:List EnR) (w:World) (E:EnsIn w A es) (hc:es.length ≤ c) :
  Calls Tryz.prog 32 #[.slice A es.length c] w (PostRows 9 1 (titR (ens es)).length ((titR (ens es)).map sc) (titC (ens es)) w):=by
 have hl:=E.n
 have hs:=E.s
 have HC:=Lib.hid (implIsCat_c A c es w E hc)
 have hR:Hid (titR (ens es)=(if catB (ens es)=true then Lib.compact (sortS (titles (ens es))) else [])∧titC (ens es)=(if catB (ens es)=true then 0 else 1)):=Lib.hid ⟨rfl,rfl⟩
 have hds:=Lib.hid (fun (k:Nat) (hk:k < es.length)=>(by
  have h1:k < (titles (ens es)).length:=by rw [titles_len,ens_len];exact hk
  rw [List.take_succ_eq_append_getElem h1]
  congr 1
  simp [titles,ens]:(titles (ens es)).take (k+1)=(titles (ens es)).take k ++ [es[k].e.ti.data.toList]))
 have hall:Hid ((titles (ens es)).take es.length=titles (ens es)∧(titles (ens es)).length=es.length):=Lib.hid ⟨by rw [List.take_of_length_le];rw [titles_len,ens_len];exact Nat.le_refl _,by rw [titles_len,ens_len]⟩
 have h12:Hid (catB (ens es)=true→es.length ≤ 12):=Lib.hid (fun h=>by have:=catB_len h;rwa [ens_len] at this)
 obtain ⟨ii,hi,hz0,hz1,hz2⟩:=info_parts info_Str
 clear E hc
 generalize titR (ens es)=R at *
 generalize titC (ens es)=cd at *
 generalize titles (ens es)=T at *
 generalize catB (ens es)=cb at *
 cases cb with
 | false =>
  obtain ⟨rfl,rfl⟩:=hR.out
  go_enter Tryz.func32,Tryz.ntmps32
  go_wp2_with fail
  refine Calls.mono HC.out ?_;rintro x w1 ⟨rfl,hb1⟩
  go_wp2
  go_ret2
  exact ⟨none,0,rfl,Own.nil_,hb1⟩
 | true =>
 obtain ⟨hR1,hR2⟩:=hR.out
 rw [if_pos rfl] at hR1 hR2
 subst hR2
 replace hR1:=Lib.hid hR1
 replace h12:=Lib.hid (h12.out rfl)
 clear hR
 go_enter Tryz.func32,Tryz.ntmps32
 go_wp2_with fail
 refine Calls.mono HC.out ?_;rintro x w1 ⟨rfl,hb1⟩
 have L0:AppL w 9 ((T.take 0).map sc) (.slice (some ⟨w1.heap.size,0,none⟩) 0 0) (w1.alloc (.cells #[] 9)):=⟨(by repeat first | with_reducible (first | exact hb1 | apply below_drewN' | apply Below.drew | refine Below.alloc ?_ ?_ _ | refine Below.setCell ?_ ?_ _) | exact hb1 | omega | (simp <;> omega) | (have:=(hb1).size;first | omega | (simp <;> omega))),by rw [List.take_zero];exact Own.empty hb1.size⟩
 go_wp2_with fail
 go_loopw [4,13] (fun o i wr=>∃ k:Nat,k ≤ es.length∧i=.int .i64 k∧AppL w 9 ((T.take k).map sc) o wr) (fun _ i _=>es.length - (intOf i).toNat)
 case atStart=>exact ⟨0,Nat.zero_le _,rfl,L0⟩
 case round =>
  clear L0
  obtain ⟨k,hk,rfl,hL⟩:=hrel
  by_cases hlt:k < es.length
  ·have hnx:=Lib.hid (hds.out k hlt)
   have hkl:Hid ((T.take k).length ≤ 1048576):=Lib.hid (by rw [List.length_take];omega)
   obtain ⟨b,off,rfl,hbB,hc'⟩:=hs.rg (i:=k) (by simpa using hlt)
   simp only [List.getElem_map] at hc'
   replace hc':=rangeAt_below hc' hL.hb hbB
   have hcl:es[k].cells.length=20:=rfl
   have hon:∀ v ∈ es[k].cells,v.oneCell'=true:=es[k].e.one es[k].A es[k].c
   have D0:=Blk.new wr 35 es[k].cells.toArray
   obtain ⟨x0,_,_,_⟩:=Blk.en (e:=es[k].e) D0
   have hbw:Below wr.heap.size wr (wr.alloc (.cells es[k].cells.toArray 35)):=(Below.refl _ _).alloc (Nat.le_refl _) _
   replace hL:=hL.below hbw
   clear D0 hbw
   generalize es[k].e.ti=ti at *
   generalize es[k].cells=cs at *
   have hws:w.heap.size ≤ wr.heap.size+1:=by have:=hL.hb.size;simpa using this
   go_wp2_with (first | (refine wpList_load_mid rfl 35 _ rfl (b) (off+k * 20) rfl (cs) _ hc' Tryz.underlying35 rfl (by kernel_rfl) ?_) | (refine wpList_store_new rfl _ _ rfl cs rfl rfl (by rw [hcl];kernel_rfl) (by rw [hcl];rfl) hon ?_) | (at_builtin;refine wpList_append_rows _ rfl _ _ _ rfl w.heap.size 9 ii _ 1 16 Tryz.underlying60 hi hz0 hz1 hz2 rfl (by omega) _ _ rfl (hL.o.alloc _) _ _ _ _ ([ti.data.toList].map sc) rfl rfl (Sl.blkStr (Blk.new' _ _ _ (by first | rfl | simp))) (sc_one (x:=[ti.data.toList])) (by simp only [List.length_map];have:=hkl.out;unfold maxLen;omega) (by simp only [List.length_map];have:=hkl.out;omega) (by first | omega | (simp only [];omega) | (simp;omega)) ?_;intro v1 w3 hO2 hg2 hat;have hL2:=(hL.alloc _).app hg2 hO2))
   go_roundw
   case rel=>exact ⟨k+1,by omega,by go_num,by rw [hnx.out,List.map_append];exact hL2⟩
   case measure=>simp [intOf];omega
  ·have:k=es.length:=by omega
   subst this
   have hO:=hL.o
   have hbw:=hL.hb
   rw [hall.out.1] at hO
   obtain ⟨A9,c9,hv,_⟩:=hO.form
   rw [List.length_map] at hv
   subst hv
   have hTl:Hid (T.length=es.length∧es.length ≤ 12):=Lib.hid ⟨hall.out.2,h12.out⟩
   have H1:=Lib.hid (sortS_c w.heap.size A9 c9 T wr (by have:=hTl.out.1;have:=hTl.out.2;omega) hO)
   clear hL hO
   go_wp2_with fail
   refine Calls.mono H1.out ?_;rintro e w4 ⟨rfl,hO4,hb4⟩
   have H2:=compactS_c w.heap.size A9 c9 (sortS T) w4 (by rw [sortS_len];have:=hTl.out.1;have:=hTl.out.2;omega) (by rw [sortS_len];exact hO4)
   rw [sortS_len] at H2
   replace H2:=Lib.hid H2
   clear hO4 H1
   go_wp2_with fail
   refine Calls.mono H2.out ?_;rintro e w5 ⟨rfl,hO5,hb5⟩
   have hb:=(hbw.trans hb4).trans hb5
   obtain rfl:=hR1.out
   go_wp2
   go_ret2
   exact ⟨A9,c9,rfl,hO5,hb⟩
end Go.Proofs.YtednjmldjbndhaaGreatDoor
