/- How a law's row is closed: from a walk that returns true and leaves all old memory as it was. An argument that is a slice of bytes, opened for a law's row. How a law's row that lists variables is closed: from a walk that returns true and leaves all old memory as it was, whatever the variables hold. -/
import Derived.Test.YtednjmldjbndhaaGreatDoorRows
import Derived.WalkKit
import Derived.ProofKit
import Derived.OpenShut
import Derived.SizedLaws
import Derived.Deep.Slices
import Derived.Deep.Fields
import Derived.Lib.SmallJoins
import Derived.Test.YtednjmldjbndhaaGreatDoorTie
import Derived.Test.YtednjmldjbndhaaGreatDoorCards
import Derived.Lay
import Derived.LaidMore
import Derived.SevenTiedAt
import Derived.Test.YtednjmldjbndhaaGreatDoorKMr1
import Derived.Test.YtednjmldjbndhaaGreatDoorKMr31
set_option linter.unusedSimpArgs false
set_option linter.unusedVariables false
set_option maxRecDepth 100000
set_option maxHeartbeats 8000000
namespace Go.Proofs.YtednjmldjbndhaaGreatDoor
open Go.ChangeShapes Go.WideShapes Go.ChangeAt Go.RowKit Go.Deep

theorem own:ownKnob Tryz.prog.godebug=none:=by kernel_rfl
theorem laidOut:laidOutB Tryz.prog=true:=by kernel_rfl

section
variable {H : Type} {enc : TypeId × Value → H} {P : Program}
theorem trodAll_below (hl:laidOutB P=true) {W W':World} (hb:Below W.heap.size W W') :
  ∀ (ts:List TypeId) (vs:List Value) (ds:List (DataW H)) (ps:List MemPlace),ts.all (fun t=>P.readableRec t && decide (t < P.types.size))=true →
   (∀ x ∈ ps,x.block < W.heap.size)→DataW.TrodAll enc P W 0 (fun _=>true) true ts vs ds ps→DataW.TrodAll enc P W' 0 (fun b=>decide (b < W.heap.size)) true ts vs ds ps:=by
 intro ts
 induction ts with
 | nil =>
  intro vs ds ps _ _ h
  obtain ⟨rfl,rfl,rfl⟩:=trodAll_nil h
  exact trodAll_mk0
 | cons t ts ih =>
  intro vs ds ps hr hlt h
  obtain ⟨v,vs',d,ds',p,q,rfl,rfl,rfl,h0,h1⟩:=trodAll_cons h
  simp only [List.all_cons,Bool.and_eq_true,decide_eq_true_eq] at hr
  exact trodAll_cons_mk (Below.trod hl hr.1.1 hr.1.2 h0 hb fun x hx=>hlt x (List.mem_append_left _ hx)) (ih vs' ds' q (by simpa using hr.2) (fun x hx=>hlt x (List.mem_append_right _ hx)) h1)

theorem trodAll_length {w:World} {base:Nat} {spare:Nat→Bool} {held:Bool} :
  ∀ (ts:List TypeId) (vs:List Value) (ds:List (DataW H)) (ps:List MemPlace),DataW.TrodAll enc P w base spare held ts vs ds ps→ds.length=ts.length:=by
 intro ts
 induction ts with
 | nil=>intro vs ds ps h;obtain ⟨rfl,rfl,rfl⟩:=trodAll_nil h;rfl
 | cons t ts ih =>
  intro vs ds ps h
  obtain ⟨v,vs',d,ds',p,q,rfl,rfl,rfl,h0,h1⟩:=trodAll_cons h
  simp [ih _ _ _ h1]
end

section
variable {H : Type} {enc : TypeId × Value → H} {P : Program} {w : World} {base : Nat} {spare : Nat → Bool} {held : Bool}
theorem open_rowsV {t e:TypeId} {k:Nat} {b0:Nat} {r:Reach} {v:Value} {d:DataW H} {p:List MemPlace} {ok:List Value→Prop} (ht:P.underlying t=some (.slice e)) (hC:P.cellsOf e=k) (hk:0 < k) (hby:0 < P.bytesOf e)
  (hdec:∀ n cs y,DataW.trod enc P w 0 (fun _=>true) true n e cs=some y→cs.length=k→ok cs)
  (hv:Value.okWide P w r b0 t v) (h:DataW.Trod enc P w 0 (fun _=>true) true t v d p) (hlt:∀ x ∈ p,x.block < w.heap.size)
  (hsz:∀ elems spare,d=.slice elems spare→(elems.length+spare.length) * P.bytesOf e ≤ reachBytes) :
  ∃ (A:Option Addr) (n c:Nat) (xs:List (List Value)),v=.slice A n c∧xs.length=n∧(∀ x ∈ xs,x.length=k∧ok x)∧Sl w w.heap.size k A xs∧n ≤ 140737488351232:=by
 obtain ⟨A,len,cap,rfl⟩:=okWide_slice ht hv
 obtain ⟨fuel,hf⟩:=h
 rcases Go.Deep.open_slice ht hf with ⟨hcs,_⟩ | ⟨a,len',cap',m,n,D,Pl,hcs,hb,hl,hm,hmm,hx,hi⟩
 ·simp [Value.cells] at hcs
  obtain ⟨rfl,rfl,rfl⟩:=hcs
  exact ⟨none,0,0,[],rfl,rfl,by simp,Sl.nil_,by omega⟩
 ·simp [Value.cells] at hcs
  obtain ⟨rfl,rfl,rfl⟩:=hcs
  simp only [if_true] at hmm
  subst hmm
  rw [hC] at hx hi
  have hpl:p=MemPlace.row a (m * k) ++ (List.range m).flatMap Pl:=(Prod.mk.inj hx).2
  have hd:d=_:=(Prod.mk.inj hx).1
  have hn:len ≤ 140737488351232:=by
   have h1:=hsz _ _ hd
   simp only [List.length_map,List.length_range] at h1
   have h2:(len+(m - len)) * 1 ≤ (len+(m - len)) * P.bytesOf e:=Nat.mul_le_mul_left _ hby
   unfold reachBytes at h1
   omega
  have hex:∀ i,∃ cs':List Value,i < m→(cs'.length=k∧ok cs'∧∀ j u,cs'[j]?=some u→w.cell? (a.add (i * k+j))=some u):=by
   intro i
   by_cases hi':i < m
   ·obtain ⟨cs',hcs',ht'⟩:=hi i hi'
    obtain ⟨_,hlen,hat⟩:=World.cells?_some hcs'
    refine ⟨cs',fun _=>⟨hlen,hdec _ _ _ ht' hlen,fun j u hu=>?_⟩⟩
    have hj:j < k:=by have:=(List.getElem?_eq_some_iff.1 hu).1;omega
    rw [← Go.Deep.add_add,hat j hj,hu]
   ·exact ⟨[],fun h=>absurd h hi'⟩
  have hex':∃ f:Nat→List Value,∀ i,i < m→((f i).length=k∧ok (f i)∧∀ j u,(f i)[j]?=some u→w.cell? (a.add (i * k+j))=some u):=⟨fun i=>Classical.choose (hex i),fun i=>Classical.choose_spec (hex i)⟩
  obtain ⟨f,hf'⟩:=hex'
  refine ⟨some a,len,m,(List.range len).map f,rfl,by simp,?_,?_,hn⟩
  ·intro x hx'
   obtain ⟨i,hi',rfl⟩:=List.mem_map.1 hx'
   have:=hf' i (by have:=List.mem_range.1 hi';omega)
   exact ⟨this.1,this.2.1⟩
  ·intro i x hx'
   rw [List.getElem?_map] at hx'
   by_cases hil:i < len
   ·rw [List.getElem?_range hil] at hx'
    simp only [Option.map_some,Option.some.injEq] at hx'
    subst hx'
    obtain ⟨h1,h2,h3⟩:=hf' i (by omega)
    have hf0:=hf' 0 (by omega)
    have hc0:=hf0.2.2 0 ((f 0)[0]'(by omega)) (List.getElem?_eq_getElem (by omega))
    obtain ⟨b,off,spot⟩:=a
    have hspot:spot=none:=by
     have:=World.cell?_spot hc0
     simpa [Addr.add] using this
    subst hspot
    have hbW:b < w.heap.size:=hlt (.cell b off) (by
     rw [hpl]
     exact List.mem_append_left _ (MemPlace.mem_row.2 ⟨0,Nat.mul_pos (by omega) hk,by simp⟩))
    refine ⟨h1,b,off,rfl,hbW,fun j u hu=>?_⟩
    have:=h3 j u hu
    rw [add_plain,← Nat.add_assoc] at this
    exact this
   ·rw [List.getElem?_eq_none (by simpa using hil)] at hx'
    cases hx'
theorem sized_at {ts:List TypeId} {ds:List (DataW H)} (h:(DataW.weightsEach P ts ds).all (· ≤ reachBytes)=true) {j:Nat} {t e:TypeId} {d:DataW H} (ht:ts[j]?=some t) (hd:ds[j]?=some d) (hu:P.underlying t=some (.slice e)) :
  ∀ elems spare,d=.slice elems spare→(elems.length+spare.length) * P.bytesOf e ≤ reachBytes:=fun elems spare he=>sized_slice h ht (hd.trans (by rw [he])) hu
end
end Go.Proofs.YtednjmldjbndhaaGreatDoor
namespace Go.Proofs.YtednjmldjbndhaaGreatDoor
open Go.ChangeShapes Go.WideShapes Go.ChangeAt Go.RowKit Go.Deep
def IsByte (cs:List Value):Prop:=∃ m:Int,cs=[.int .u8 m]∧0 ≤ m∧m ≤ 255
theorem byte_of {H:Type} {enc:TypeId × Value→H} {P:Program} {w:World} {base:Nat} {spare:Nat→Bool} {held:Bool} {n:Nat} {tI:TypeId} {cs:List Value} {y:DataW H × List MemPlace} (hI:P.underlying tI=some (.int .u8)) (h:DataW.trod enc P w base spare held n tI cs=some y):IsByte cs:=by
 obtain ⟨m,hm,_,hwf⟩:=DataW.trod_int hI h
 refine ⟨m,hm,?_⟩
 simpa [Lit.wf,IntKind.min,IntKind.max,IntKind.signed,IntKind.bits] using hwf
theorem bytes_of_rows {w:World} {A:Option Addr} {n B:Nat} {xs:List (List Value)} (hl:xs.length=n) (hok:∀ x ∈ xs,x.length=1∧IsByte x) (hs:Sl w B 1 A xs):Bytes w A n B:=fun i hi=>by
 obtain ⟨b,off,rfl,hb,hc⟩:=hs.at_ (i:=i) (by omega)
 obtain ⟨_,m,hm,h1,h2⟩:=hok xs[i] (List.getElem_mem _)
 refine ⟨b,off,m,rfl,hb,⟨h1,h2⟩,?_⟩
 have:=hc 0 (.int .u8 m) (by rw [hm];rfl)
 simpa using this
end Go.Proofs.YtednjmldjbndhaaGreatDoor
namespace Go.Proofs.YtednjmldjbndhaaGreatDoor
open Go.ChangeShapes Go.WideShapes Go.ChangeAt Go.RowKit Go.Deep
theorem lifted_laid {os:Os} (started:os.Started) {H:Type} {enc:TypeId × Value→H} {K:FuncId} {fn:Func} {s:ChangeSpec} (laid:List (String × DataW Unit))
  (noInit:Tryz.checked.prog.inits.idxOf? K=none) (hfn:Tryz.checked.prog.funcs[K]?=some fn)
  (witness:∃ (w:World) (tape:Tape) (i:Input),w.os=os∧(w.forCall tape i).Shaped Tryz.checked.prog∧i.vars=[]∧Input.okWide Tryz.checked.prog (w.forCall tape i) .any w.heap.size K i ∧
   ((s.pre enc Tryz.checked.prog fn [] false (w.forCall tape i).memory i.args∧laidMetH Tryz.prog laid (w.forCall tape i).memory)∧sizedMet enc Tryz.checked.prog fn (OpenSpec.ofChange s) false (w.forCall tape i).memory i.args)∧({}:Assume).holds Tryz.checked.prog (lone (Frame.enter Tryz.checked.prog K i.args .normal) [] (w.forCall tape i)))
  (hv:s.vars=[]) (hrt:fn.resultTypes=#[4])
  (hs:∀ ds:List (DataW H),ds.length=fn.params.toList.length→s.fn H (ds ++ [])={ results:=[.lit (.bool true)],args:=ds })
  (hpr:fn.params.toList.all (fun t=>Tryz.prog.readableRec t && decide (t < Tryz.prog.types.size))=true)
  (walk:∀ (W:World) (base:Nat) (args:Array Value) (ds:List (DataW H)) (ps:List MemPlace),
   (∀ (j:Nat) t v,fn.params[j]?=some t→args[j]?=some v→Value.okWide Tryz.prog W .any base t v) →
   DataW.TrodAll enc Tryz.prog W 0 (fun _=>true) true fn.params.toList args.toList ds ps→(∀ x ∈ ps,x.block < W.heap.size) →
   (DataW.weightsEach Tryz.prog fn.params.toList ds).all (· ≤ reachBytes)=true →
   Calls Tryz.prog K args W fun e W'=>e=.returned (.bool true)∧Below W.heap.size W W') :
  ReturnsInHanded {} Tryz.checked os K .any (fun w args=>(s.pre enc Tryz.prog fn [] false w args∧laidMetH Tryz.prog laid w)∧sizedMet enc Tryz.prog fn (OpenSpec.ofChange s) false w args) (s.post enc Tryz.prog fn false true false false):=by
 refine returnsInHanded_of_change_and (C:=Tryz.checked) (X:=fun w _=>laidMetH Tryz.prog laid w) (fun _ _ _ hh h=>h.of_heap hh) own started noInit hfn witness ?_
 intro W base args ds gs before hval hW _ hsz _ _
 have hW':=hW
 obtain ⟨p,q,hA,hV,rfl,hfz,hnd⟩:=hW
 rw [hv] at hV
 obtain ⟨rfl,rfl⟩:=trodVars_none hV
 have hlt:∀ x ∈ p,x.block < W.heap.size:=fun x hx=>by simpa using hW'.lt x (List.mem_append_left _ hx)
 have hty:s.plain.varTypes Tryz.checked.prog=[]:=by
  unfold DataSpec.varTypes ChangeSpec.plain
  rw [hv]
  rfl
 rw [hty] at hsz
 simp only [List.append_nil] at hsz
 refine (walk W base args ds p hval hA hlt hsz).mono fun e W' ⟨he,hb⟩=>?_
 subst he
 have hlen:=trodAll_length _ _ _ _ hA
 refine ⟨_,rfl,ds,[],p ++ [],[],p ++ [],[],hW',?_,?_,?_,hb.frame _,fun h=>by cases h⟩
 ·rw [hs ds hlen,hrt]
  exact trodAll_mk1 (shut_bool Tryz.underlying4 _)
 ·rw [hs ds hlen]
  have h:=trodAll_below laidOut hb _ _ _ _ hpr hlt hA
  rw [List.append_nil]
  exact h
 ·rw [hs ds hlen,hv]
  rfl
end Go.Proofs.YtednjmldjbndhaaGreatDoor
