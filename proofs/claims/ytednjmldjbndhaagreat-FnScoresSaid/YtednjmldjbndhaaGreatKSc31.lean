/- How a law's row is closed: from a walk that returns true and leaves all old memory as it was. How a law's arguments are opened: structs that hold slices, slices of such structs. No condition of their own. How exercises, rules and answers are opened as a law's arguments. No condition of their own. FnExactIsExercise's walk: for every exercise the law returns true. Conditions: what an argument always is. Lists of exercises: the laws' copies, comparison and size of them. Conditions: the lists' lengths. The reference's draw of exercises. Condition: the code has at most 4096 bytes. How many moves the usual plan of a chain has: the program's. Conditions: the lengths. The reference's draw of what an exercise is made from. Condition: the code has at most 4096 bytes. -/
import Derived.Test.YtednjmldjbndhaaGreatRows
import Derived.WalkKit
import Derived.ProofKit
import Derived.OpenShut
import Derived.SizedLaws
import Derived.Deep.Slices
import Derived.Deep.Fields
import Derived.Lib.SmallJoins
import Derived.Test.YtednjmldjbndhaaGreatKSc1
import Derived.Test.YtednjmldjbndhaaGreatKSc13
import Derived.Test.YtednjmldjbndhaaGreatKSc22
import Derived.Test.YtednjmldjbndhaaGreatKSc24
import Derived.Test.YtednjmldjbndhaaGreatKSc28
import Derived.Test.YtednjmldjbndhaaGreatKSc30
import Derived.Test.YtednjmldjbndhaaGreatKSc6
set_option linter.unusedSimpArgs false
set_option linter.unusedVariables false
namespace Go.Proofs.YtednjmldjbndhaaGreat
open Go.ChangeShapes Go.WideShapes Go.ChangeAt Go.RowKit Go.Deep

theorem own : ownKnob Tryz.prog.godebug = none := by kernel_rfl
set_option maxRecDepth 100000 in
theorem laidOut : laidOutB Tryz.prog = true := by kernel_rfl

section
variable {H : Type} {enc : TypeId × Value → H} {P : Program}
theorem trodAll_below (hl : laidOutB P = true) {W W' : World} (hb : Below W.heap.size W W') :
  ∀ (ts : List TypeId) (vs : List Value) (ds : List (DataW H)) (ps : List MemPlace), ts.all (fun t => P.readableRec t && decide (t < P.types.size)) = true →
   (∀ x ∈ ps, x.block < W.heap.size) → DataW.TrodAll enc P W 0 (fun _ => true) true ts vs ds ps → DataW.TrodAll enc P W' 0 (fun b => decide (b < W.heap.size)) true ts vs ds ps := by
 intro ts
 induction ts with
 | nil =>
  intro vs ds ps _ _ h
  obtain ⟨rfl, rfl, rfl⟩ := trodAll_nil h
  exact trodAll_mk0
 | cons t ts ih =>
  intro vs ds ps hr hlt h
  obtain ⟨v, vs', d, ds', p, q, rfl, rfl, rfl, h0, h1⟩ := trodAll_cons h
  simp only [List.all_cons, Bool.and_eq_true, decide_eq_true_eq] at hr
  exact trodAll_cons_mk (Below.trod hl hr.1.1 hr.1.2 h0 hb fun x hx => hlt x (List.mem_append_left _ hx)) (ih vs' ds' q (by simpa using hr.2) (fun x hx => hlt x (List.mem_append_right _ hx)) h1)

theorem trodAll_length {w : World} {base : Nat} {spare : Nat → Bool} {held : Bool} :
  ∀ (ts : List TypeId) (vs : List Value) (ds : List (DataW H)) (ps : List MemPlace), DataW.TrodAll enc P w base spare held ts vs ds ps → ds.length = ts.length := by
 intro ts
 induction ts with
 | nil => intro vs ds ps h; obtain ⟨rfl, rfl, rfl⟩ := trodAll_nil h; rfl
 | cons t ts ih =>
  intro vs ds ps h
  obtain ⟨v, vs', d, ds', p, q, rfl, rfl, rfl, h0, h1⟩ := trodAll_cons h
  simp [ih _ _ _ h1]
end

section
variable {H : Type} {enc : TypeId × Value → H} {P : Program} {w : World} {base : Nat} {spare : Nat → Bool} {held : Bool}
/-- An argument that is a slice of structs: the rows of its cells. -/
theorem open_rowsV {t e : TypeId} {k : Nat} {b0 : Nat} {r : Reach} {v : Value} {d : DataW H} {p : List MemPlace} {ok : List Value → Prop} (ht : P.underlying t = some (.slice e)) (hC : P.cellsOf e = k) (hk : 0 < k) (hby : 0 < P.bytesOf e)
  (hdec : ∀ n cs y, DataW.trod enc P w 0 (fun _ => true) true n e cs = some y → cs.length = k → ok cs)
  (hv : Value.okWide P w r b0 t v) (h : DataW.Trod enc P w 0 (fun _ => true) true t v d p) (hlt : ∀ x ∈ p, x.block < w.heap.size)
  (hsz : ∀ elems spare, d = .slice elems spare → (elems.length + spare.length) * P.bytesOf e ≤ reachBytes) :
  ∃ (A : Option Addr) (n c : Nat) (xs : List (List Value)), v = .slice A n c ∧ xs.length = n ∧ (∀ x ∈ xs, x.length = k ∧ ok x) ∧ Sl w w.heap.size k A xs ∧ n ≤ 140737488351232 := by
 obtain ⟨A, len, cap, rfl⟩ := okWide_slice ht hv
 obtain ⟨fuel, hf⟩ := h
 rcases Go.Deep.open_slice ht hf with ⟨hcs, _⟩ | ⟨a, len', cap', m, n, D, Pl, hcs, hb, hl, hm, hmm, hx, hi⟩
 ·simp [Value.cells] at hcs
  obtain ⟨rfl, rfl, rfl⟩ := hcs
  exact ⟨none, 0, 0, [], rfl, rfl, by simp, Sl.nil_, by omega⟩
 ·simp [Value.cells] at hcs
  obtain ⟨rfl, rfl, rfl⟩ := hcs
  simp only [if_true] at hmm
  subst hmm
  rw [hC] at hx hi
  have hpl : p = MemPlace.row a (m * k) ++ (List.range m).flatMap Pl := (Prod.mk.inj hx).2
  have hd : d = _ := (Prod.mk.inj hx).1
  have hn : len ≤ 140737488351232 := by
   have h1 := hsz _ _ hd
   simp only [List.length_map, List.length_range] at h1
   have h2 : (len + (m - len)) * 1 ≤ (len + (m - len)) * P.bytesOf e := Nat.mul_le_mul_left _ hby
   unfold reachBytes at h1
   omega
  have hex : ∀ i, ∃ cs' : List Value, i < m → (cs'.length = k ∧ ok cs' ∧ ∀ j u, cs'[j]? = some u → w.cell? (a.add (i * k + j)) = some u) := by
   intro i
   by_cases hi' : i < m
   ·obtain ⟨cs', hcs', ht'⟩ := hi i hi'
    obtain ⟨_, hlen, hat⟩ := World.cells?_some hcs'
    refine ⟨cs', fun _ => ⟨hlen, hdec _ _ _ ht' hlen, fun j u hu => ?_⟩⟩
    have hj : j < k := by have := (List.getElem?_eq_some_iff.1 hu).1; omega
    rw [← Go.Deep.add_add, hat j hj, hu]
   ·exact ⟨[], fun h => absurd h hi'⟩
  have hex' : ∃ f : Nat → List Value, ∀ i, i < m → ((f i).length = k ∧ ok (f i) ∧ ∀ j u, (f i)[j]? = some u → w.cell? (a.add (i * k + j)) = some u) := ⟨fun i => Classical.choose (hex i), fun i => Classical.choose_spec (hex i)⟩
  obtain ⟨f, hf'⟩ := hex'
  refine ⟨some a, len, m, (List.range len).map f, rfl, by simp, ?_, ?_, hn⟩
  ·intro x hx'
   obtain ⟨i, hi', rfl⟩ := List.mem_map.1 hx'
   have := hf' i (by have := List.mem_range.1 hi'; omega)
   exact ⟨this.1, this.2.1⟩
  ·intro i x hx'
   rw [List.getElem?_map] at hx'
   by_cases hil : i < len
   ·rw [List.getElem?_range hil] at hx'
    simp only [Option.map_some, Option.some.injEq] at hx'
    subst hx'
    obtain ⟨h1, h2, h3⟩ := hf' i (by omega)
    have hf0 := hf' 0 (by omega)
    have hc0 := hf0.2.2 0 ((f 0)[0]'(by omega)) (List.getElem?_eq_getElem (by omega))
    obtain ⟨b, off, spot⟩ := a
    have hspot : spot = none := by
     have := World.cell?_spot hc0
     simpa [Addr.add] using this
    subst hspot
    have hbW : b < w.heap.size := hlt (.cell b off) (by
     rw [hpl]
     exact List.mem_append_left _ (MemPlace.mem_row.2 ⟨0, Nat.mul_pos (by omega) hk, by simp⟩))
    refine ⟨h1, b, off, rfl, hbW, fun j u hu => ?_⟩
    have := h3 j u hu
    rw [add_plain, ← Nat.add_assoc] at this
    exact this
   ·rw [List.getElem?_eq_none (by simpa using hil)] at hx'
    cases hx'
theorem sized_at {ts : List TypeId} {ds : List (DataW H)} (h : (DataW.weightsEach P ts ds).all (· ≤ reachBytes) = true) {j : Nat} {t e : TypeId} {d : DataW H} (ht : ts[j]? = some t) (hd : ds[j]? = some d) (hu : P.underlying t = some (.slice e)) :
  ∀ elems spare, d = .slice elems spare → (elems.length + spare.length) * P.bytesOf e ≤ reachBytes := fun elems spare he => sized_slice h ht (hd.trans (by rw [he])) hu
end
set_option maxRecDepth 100000 in
/-- The row's step, out of a walk. -/
theorem lifted_of {os : Os} (started : os.Started) {H : Type} {enc : TypeId × Value → H} {K : FuncId} {fn : Func} {s : ChangeSpec}
  (noInit : Tryz.checked.prog.inits.idxOf? K = none) (hfn : Tryz.checked.prog.funcs[K]? = some fn)
  (witness : ∃ (w : World) (tape : Tape) (i : Input), w.os = os ∧ (w.forCall tape i).Shaped Tryz.checked.prog ∧ i.vars = [] ∧ Input.okWide Tryz.checked.prog (w.forCall tape i) .any w.heap.size K i ∧
   s.pre6 enc Tryz.checked.prog fn [] false (w.forCall tape i).memory i.args ∧ ({} : Assume).holds Tryz.checked.prog (lone (Frame.enter Tryz.checked.prog K i.args .normal) [] (w.forCall tape i)))
  (hv : s.vars = []) (hrt : fn.resultTypes = #[4])
  (hs : ∀ ds : List (DataW H), ds.length = fn.params.toList.length → s.fn H (ds ++ []) = { results := [.lit (.bool true)], args := ds })
  (hpr : fn.params.toList.all (fun t => Tryz.prog.readableRec t && decide (t < Tryz.prog.types.size)) = true)
  (walk : ∀ (W : World) (base : Nat) (args : Array Value) (ds : List (DataW H)) (ps : List MemPlace),
   (∀ (j : Nat) t v, fn.params[j]? = some t → args[j]? = some v → Value.okWide Tryz.prog W .any base t v) →
   DataW.TrodAll enc Tryz.prog W 0 (fun _ => true) true fn.params.toList args.toList ds ps → (∀ x ∈ ps, x.block < W.heap.size) →
   (DataW.weightsEach Tryz.prog fn.params.toList ds).all (· ≤ reachBytes) = true →
   Calls Tryz.prog K args W fun e W' => e = .returned (.bool true) ∧ Below W.heap.size W W') :
  ReturnsInHanded {} Tryz.checked os K .any (s.pre6 enc Tryz.prog fn [] false) (s.post enc Tryz.prog fn false true false false) := by
 refine returnsInHanded_of_change_sized (C := Tryz.checked) own started noInit hfn witness ?_
 intro W base args ds gs before hval hW _ hsz _
 have hW' := hW
 obtain ⟨p, q, hA, hV, rfl, hfz, hnd⟩ := hW
 rw [hv] at hV
 obtain ⟨rfl, rfl⟩ := trodVars_none hV
 have hlt : ∀ x ∈ p, x.block < W.heap.size := fun x hx => by simpa using hW'.lt x (List.mem_append_left _ hx)
 have hty : s.plain.varTypes Tryz.checked.prog = [] := by
  unfold DataSpec.varTypes ChangeSpec.plain
  rw [hv]
  rfl
 rw [hty] at hsz
 simp only [List.append_nil] at hsz
 refine (walk W base args ds p hval hA hlt hsz).mono fun e W' ⟨he, hb⟩ => ?_
 subst he
 have hlen := trodAll_length _ _ _ _ hA
 refine ⟨_, rfl, ds, [], p ++ [], [], p ++ [], [], hW', ?_, ?_, ?_, hb.frame _, fun h => by cases h⟩
 ·rw [hs ds hlen, hrt]
  exact trodAll_mk1 (shut_bool Tryz.underlying4 _)
 ·rw [hs ds hlen]
  have h := trodAll_below laidOut hb _ _ _ _ hpr hlt hA
  rw [List.append_nil]
  exact h
 ·rw [hs ds hlen, hv]
  rfl
end Go.Proofs.YtednjmldjbndhaaGreat
namespace Go.Proofs.YtednjmldjbndhaaGreat
open Go.ChangeShapes Go.WideShapes Go.ChangeAt Go.RowKit Go.Deep
section
variable {H : Type} (enc : TypeId × Value → H) (P : Program) (w : World)
end
section
variable {H : Type} {enc : TypeId × Value → H} {P : Program} {w : World}
end
end Go.Proofs.YtednjmldjbndhaaGreat
namespace Go.Proofs.YtednjmldjbndhaaGreat
open Go.ChangeShapes Go.WideShapes Go.ChangeAt Go.RowKit Go.Deep
section
variable {H : Type} {enc : TypeId × Value → H} {P : Program} {w : World}
end
section
variable {H : Type} {enc : TypeId × Value → H} {w : World}
/-- an exercise's lists, as they lie in w, their lengths open -/
structure ExLaid (w : World) (A1 : Option Addr) (c1 : Nat) (l1 : List Int) (A2 : Option Addr) (c2 : Nat) (l2 : List Int) (A3 : Option Addr) (c3 : Nat) (l3 : List Term) : Prop where
 z1 : l1.length ≤ 140737488351232
 z2 : l2.length ≤ 140737488351232
 z3 : l3.length ≤ 140737488351232
 k1 : l1.length ≤ c1
 k2 : l2.length ≤ c2
 k3 : l3.length ≤ c3
 s1 : Sl w w.heap.size 1 A1 (l1.map ic)
 s2 : Sl w w.heap.size 1 A2 (l2.map ic)
 s3 : Sl w w.heap.size 3 A3 (l3.map Term.cells)
end
end Go.Proofs.YtednjmldjbndhaaGreat
namespace Go.Proofs.YtednjmldjbndhaaGreat
open Go.RowKit
/-- the exercise that a copy made -/
def exAgg (L : Int) (B1 : Option Addr) (n1 d1 : Nat) (B2 : Option Addr) (n2 d2 : Nat) (B3 : Option Addr) (n3 d3 : Nat) (p q r : Int) : Value := .agg #[.int .i64 L, .slice B1 n1 d1, .slice B2 n2 d2, .slice B3 n3 d3, .int .i64 p, .int .i64 q, .int .i64 r]
theorem ExLaid.ex {w : World} {A1 : Option Addr} {c1 : Nat} {l1 : List Int} {A2 : Option Addr} {c2 : Nat} {l2 : List Int} {A3 : Option Addr} {c3 : Nat} {l3 : List Term} (X : ExLaid w A1 c1 l1 A2 c2 l2 A3 c3 l3) (h : l1.length ≤ 1048576 ∧ l2.length ≤ 1048576 ∧ l3.length ≤ 1048576) : ExIn w A1 c1 l1 A2 c2 l2 A3 c3 l3 :=
 ⟨h.1, h.2.1, h.2.2, X.k1, X.k2, X.k3, X.s1, X.s2, X.s3⟩
/-- a copy of an exercise: new memory, the same lists -/
def ExCopy (L : Int) (l1 l2 : List Int) (l3 : List Term) (p q r : Int) (v : Value) (w : World) (base : Nat) : Prop := ∃ B1 d1 B2 d2 B3 d3, v = exAgg L B1 l1.length d1 B2 l2.length d2 B3 l3.length d3 p q r ∧ ExIn w B1 d1 l1 B2 d2 l2 B3 d3 l3 ∧
 Own w base 2 1 (.slice B1 l1.length d1) (l1.map ic) ∧ Own w base 2 1 (.slice B2 l2.length d2) (l2.map ic) ∧ Own w base 100 3 (.slice B3 l3.length d3) (l3.map Term.cells)
theorem ExCopy.below {L : Int} {l1 l2 : List Int} {l3 : List Term} {p q r : Int} {v : Value} {w w' : World} {base : Nat} (h : ExCopy L l1 l2 l3 p q r v w base) (hb : Below w.heap.size w w') : ExCopy L l1 l2 l3 p q r v w' base := by
 obtain ⟨B1, d1, B2, d2, B3, d3, h1, h2, o1, o2, o3⟩ := h
 exact ⟨B1, d1, B2, d2, B3, d3, h1, h2.later hb, o1.below hb, o2.below hb, o3.below hb⟩
/-- while '!eqExercise(x0, toExercise(aX))' runs -/
structure EqS (w1 : World) (b : Bool) (Q : Value → World → Prop) (x : Value) (v : World) : Prop where
 hb : Below w1.heap.size w1 v
 q : b = true → Q x v
end Go.Proofs.YtednjmldjbndhaaGreat
namespace Go.Proofs.YtednjmldjbndhaaGreat
open Go.RowKit
/-- an exercise and where its lists lie -/
structure ExR where
 L : Int
 A1 : Option Addr
 c1 : Nat
 l1 : List Int
 A2 : Option Addr
 c2 : Nat
 l2 : List Int
 A3 : Option Addr
 c3 : Nat
 l3 : List Term
 p : Int
 q : Int
 r : Int
def ExR.cells (e : ExR) : List Value := [.int .i64 e.L, .slice e.A1 e.l1.length e.c1, .slice e.A2 e.l2.length e.c2, .slice e.A3 e.l3.length e.c3, .int .i64 e.p, .int .i64 e.q, .int .i64 e.r]
/-- the same exercise, elsewhere -/
def ExR.as (e : ExR) (B1 : Option Addr) (d1 : Nat) (B2 : Option Addr) (d2 : Nat) (B3 : Option Addr) (d3 : Nat) : ExR := ⟨e.L, B1, d1, e.l1, B2, d2, e.l2, B3, d3, e.l3, e.p, e.q, e.r⟩
def ExR.same (e f : ExR) : Prop := ∃ B1 d1 B2 d2 B3 d3, f = e.as B1 d1 B2 d2 B3 d3
def ExR.In (e : ExR) (w : World) : Prop := ExIn w e.A1 e.c1 e.l1 e.A2 e.c2 e.l2 e.A3 e.c3 e.l3
theorem ExLaid.later {w W : World} {A1 : Option Addr} {c1 : Nat} {l1 : List Int} {A2 : Option Addr} {c2 : Nat} {l2 : List Int} {A3 : Option Addr} {c3 : Nat} {l3 : List Term} (E : ExLaid w A1 c1 l1 A2 c2 l2 A3 c3 l3) (hW : Below w.heap.size w W) : ExLaid W A1 c1 l1 A2 c2 l2 A3 c3 l3 :=
 ⟨E.z1, E.z2, E.z3, E.k1, E.k2, E.k3, (E.s1.below hW).more hW.size, (E.s2.below hW).more hW.size, (E.s3.below hW).more hW.size⟩
/-- a list of exercises, as it lies in w -/
structure ExsIn (w : World) (A : Option Addr) (es : List ExR) : Prop where
 n : es.length ≤ 1048576
 s : Sl w w.heap.size 7 A (es.map ExR.cells)
 i : ∀ e ∈ es, e.In w
theorem ExsIn.later {w W : World} {A : Option Addr} {es : List ExR} (h : ExsIn w A es) (hW : Below w.heap.size w W) : ExsIn W A es := ⟨h.n, (h.s.below hW).more hW.size, fun e he => ExIn.later (h.i e he) hW⟩
/-- the lists lie outside block g -/
def ExR.Far (e : ExR) (g : Nat) : Prop := Off e.A1 g ∧ Off e.A2 g ∧ Off e.A3 g
theorem ExR.In.far {e : ExR} {w : World} {g j : Nat} {u : Value} (h : e.In w) (hf : e.Far g) : e.In (w.setCell ⟨g, j, none⟩ u) := by
 have hz : (w.setCell ⟨g, j, none⟩ u).heap.size = w.heap.size := by simp
 exact ⟨h.h1, h.h2, h.h3, h.k1, h.k2, h.k3, by rw [hz]; exact sl_far h.s1 hf.1, by rw [hz]; exact sl_far h.s2 hf.2.1, by rw [hz]; exact sl_far h.s3 hf.2.2⟩
end Go.Proofs.YtednjmldjbndhaaGreat
namespace Go.Proofs.YtednjmldjbndhaaGreat
open Go.RowKit
theorem own_ne_ownX {w : World} {base base' k k' : Nat} {e e' : TypeId} {v v' : Value} {xs xs' : List (List Value)} (h : Own w base e k v xs) (h' : Own w base' e' k' v' xs') (he : e ≠ e') : v.ownBlock = none ∨ v.ownBlock ≠ v'.ownBlock := by
 rcases h.1.2 with ⟨rfl, _⟩ | ⟨q, cap, cur, rfl, _, hh, _⟩
 ·exact .inl rfl
 ·refine .inr fun hv => ?_
  rcases h'.1.2 with ⟨rfl, _⟩ | ⟨q', cap', cur', rfl, _, hh', _⟩
  ·cases hv
  ·simp only [Value.ownBlock, Option.some.injEq] at hv
   subst hv
   rw [hh] at hh'
   cases hh'
   exact he rfl
/-- an exercise whose lists a call has made -/
structure ExO (v : World) (base : Nat) (e : ExR) : Prop where
 o1 : Own v base 2 1 (.slice e.A1 e.l1.length e.c1) (e.l1.map ic)
 o2 : Own v base 2 1 (.slice e.A2 e.l2.length e.c2) (e.l2.map ic)
 o3 : Own v base 100 3 (.slice e.A3 e.l3.length e.c3) (e.l3.map Term.cells)
 n : e.l1.length ≤ 100 ∧ e.l2.length ≤ 100 ∧ e.l3.length ≤ 100
theorem ExO.in_ {v : World} {base : Nat} {e : ExR} (h : ExO v base e) : e.In v :=
 ⟨by have := h.n; omega, by have := h.n; omega, by have := h.n; omega, h.o1.le_cap, h.o2.le_cap, h.o3.le_cap, h.o1.sl, h.o2.sl, h.o3.sl⟩
/-- a list of exercises that grows; those of ex are held besides -/
structure EsS (A : Option Addr) (n c g : Nat) (w4 : World) (ex es : List ExR) (Al : Option Addr) (cl : Nat) (v : World) : Prop where
 s : Src v A n c g
 gr : w4.grownBy v (some g)
 gl : g < w4.heap.size
 o : Own v w4.heap.size 31 7 (.slice Al es.length cl) (es.map ExR.cells)
 m : ∀ e ∈ ex ++ es, ExO v w4.heap.size e
section
variable {A : Option Addr} {n c g : Nat} {w4 v v' : World} {ex es : List ExR} {Al : Option Addr} {cl : Nat} {u : Value}
theorem EsS.start (hS : Src w4 A n c g) : EsS A n c g w4 [] [] (some ⟨w4.heap.size, 0, none⟩) 0 (w4.alloc (.cells #[] 31)) :=
 ⟨hS.alloc _, grown_alloc _ _, hS.lt, Own.empty (Nat.le_refl _), fun e he => by simp at he⟩
theorem EsS.src (h : EsS A n c g w4 ex es Al cl v) (hS : Src v' A n c g) (hg : v.grownBy v' (some g)) : EsS A n c g w4 ex es Al cl v' :=
 ⟨hS, h.gr.trans hg, h.gl, h.o.src hg h.gl, fun e he => have q := h.m e he; ⟨q.o1.src hg h.gl, q.o2.src hg h.gl, q.o3.src hg h.gl, q.n⟩⟩
theorem EsS.below (h : EsS A n c g w4 ex es Al cl v) (hb : Below v.heap.size v v') : EsS A n c g w4 ex es Al cl v' :=
 ⟨h.s.below hb, h.gr.trans (grown_below hb), h.gl, h.o.below hb, fun e he => have q := h.m e he; ⟨q.o1.below hb, q.o2.below hb, q.o3.below hb, q.n⟩⟩
theorem EsS.alloc (h : EsS A n c g w4 ex es Al cl v) (ob : Obj) : EsS A n c g w4 ex es Al cl (v.alloc ob) := h.below ((Below.refl _ _).alloc (Nat.le_refl _) ob)
theorem EsS.held (h : EsS A n c g w4 ex es Al cl v) {e : ExR} (he : ExO v w4.heap.size e) : EsS A n c g w4 (e :: ex) es Al cl v :=
 ⟨h.s, h.gr, h.gl, h.o, fun e' he' => by
  rcases List.mem_cons.1 he' with rfl | he'
  ·exact he
  ·exact h.m e' he'⟩
theorem EsS.push (h : EsS A n c g w4 ex es Al cl v) {e : ExR} (he : ExO v w4.heap.size e) (ob : Obj) (hO : Own v' w4.heap.size 31 7 u (es.map ExR.cells ++ [e.cells])) (hg : (v.alloc ob).grownBy v' (Value.slice Al es.length cl).ownBlock) :
  ∃ Al' cl', u = .slice Al' (es ++ [e]).length cl' ∧ EsS A n c g w4 ex (es ++ [e]) Al' cl' v' := by
 obtain ⟨Al', cl', rfl, hc⟩ := hO.form
 have hl : (es.map ExR.cells ++ [e.cells]).length = (es ++ [e]).length := by simp
 have hrow : es.map ExR.cells ++ [e.cells] = (es ++ [e]).map ExR.cells := by simp
 rw [hl] at hO
 rw [hl]
 rw [hrow] at hO
 have h1 := (h.held he).alloc ob
 have ho := h.o.ownGe
 refine ⟨Al', cl', rfl, h1.s.grown hg (fun r hr => Nat.lt_of_lt_of_le h.gl (ho r hr)), grown_app h1.gr hg ho, h.gl, hO, fun e' he' => ?_⟩
 have he2 : ExO (v.alloc ob) w4.heap.size e' := by
  refine h1.m e' ?_
  simp only [List.mem_append, List.mem_cons, List.not_mem_nil, or_false] at he' ⊢
  rcases he' with h2 | h2 | h2
  ·exact .inl (.inr h2)
  ·exact .inr h2
  ·exact .inl (.inl h2)
 exact ⟨he2.o1.kept hg (own_ne_ownX he2.o1 h1.o (by decide)), he2.o2.kept hg (own_ne_ownX he2.o2 h1.o (by decide)), he2.o3.kept hg (own_ne_ownX he2.o3 h1.o (by decide)), he2.n⟩
theorem EsS.in_ (h : EsS A n c g w4 ex es Al cl v) (hn : es.length ≤ 1048576) : ExsIn v Al es :=
 ⟨hn, h.o.sl, fun e he => (h.m e (List.mem_append.2 (.inr he))).in_⟩
end
theorem ExR.one {l : List ExR} : ∀ y ∈ l.map ExR.cells, ∀ u ∈ y, u.oneCell' = true := fun y hy u hu => by
 obtain ⟨s, _, rfl⟩ := List.mem_map.1 hy
 simp [ExR.cells] at hu
 repeat (first | (rcases hu with rfl | hu; rfl) | (subst hu; rfl))
theorem info_ExX : (Tryz.prog.info? 31).map (fun i => (i.zero, i.size, i.bytes)) = some (some (.agg #[.int .i64 0, .slice none 0 0, .slice none 0 0, .slice none 0 0, .int .i64 0, .int .i64 0, .int .i64 0]), 7, 104) := by kernel_rfl
/-- exercises, drawn -/
def DHd (w : World) (e : Ending) (w' : World) : Prop := ∃ (es : List ExR) (Al : Option Addr) (cl : Nat), e = .returned (.slice Al es.length cl) ∧ ExsIn w' Al es ∧ (es.length ≤ 100 ∧ es.length ≤ cl) ∧ Below w.heap.size w w'
set_option maxRecDepth 100000 in
set_option maxHeartbeats 1000000 in
theorem drawHardestOf_c (A : Option Addr) (n c : Nat) (w : World) (hn : n ≤ 4096) (hb : Bytes w A n w.heap.size) : Calls Tryz.prog 13 #[.slice A n c] w (DHd w) := by
 obtain ⟨i0, hi, hz0, hz1, hz2⟩ := info_parts info_ExX
 have hF := Lib.hid (l01From_c A n c w hn hb)
 clear hb
 unfold DHd
 go_enter Tryz.func13, Tryz.ntmps13
 go_wp2_with fail
 refine hF.out.mono ?_; rintro e w4 ⟨rfl, hS, hB⟩
 have hsz : w.heap.size ≤ w4.heap.size := hB.size
 clear hF
 have hL := EsS.start hS
 go_wp2_with fail
 generalize hgw : w.heap.size = g at *
 have hB : Below g w w4 := hB
 have hgl : g < w4.heap.size := hS.lt
 have hsz5 : (w4.alloc (.cells #[] 31)).heap.size = w4.heap.size + 1 := by simp
 generalize w4.alloc (.cells #[] 31) = w5 at *
 clear hS
 refine (l01Next_c A n c g _ _ hL.s).mono ?_; rintro e w6 ⟨x, rfl, ⟨xa, xb⟩, xd, hS, hg⟩
 have hL := hL.src hS hg
 clear hS hg
 obtain ⟨k, rfl⟩ := Int.eq_ofNat_of_zero_le xa
 have hk : k ≤ 4 := by omega
 clear xa xb xd
 have hV : ∃ (es : List ExR) (Al : Option Addr) (cl : Nat), (Value.slice (some ⟨w4.heap.size, 0, none⟩) 0 0) = .slice Al es.length cl ∧ es.length + k ≤ 4 ∧ EsS A n c g w4 [] es Al cl w6 := ⟨[], some ⟨w4.heap.size, 0, none⟩, 0, rfl, by simp; omega, hL⟩
 clear hL
 go_wp2_with fail
 go_loopg [4, 5] 4 (fun gx s4 s5 wr => ∃ (es : List ExR) (Al : Option Addr) (cl k : Nat), s4 = .slice Al es.length cl ∧ s5 = .int .i64 (k : Int) ∧ k ≤ gx ∧ es.length + k ≤ 4 ∧ EsS A n c g w4 [] es Al cl wr)
 case atStart =>
  obtain ⟨es, Al, cl, h1, h2, h3⟩ := hV
  exact ⟨es, Al, cl, k, h1, rfl, by omega, h2, h3⟩
 case round =>
  clear hV hk
  obtain ⟨es, Al, cl, k, hs6, hs7, hkg, hke, hL⟩ := hrel
  subst hs6; subst hs7
  by_cases hk0 : (0 : Int) < (k : Int)
  ·have hw1 : IntKind.i64.wrap ((k : Int) - 1) = ((k - 1 : Nat) : Int) := by rw [IntWalk.i64_in _ (by omega)]; omega
   have HH := Lib.hid (And.intro hkg hke)
   clear hkg hke
   go_wp2_with fail
   refine (l31Draw_c A n c g _ hL.s).mono ?_; rintro e w7 ⟨L, l1, l2, l3, A1, A2, A3, c1, c2, c3, p, q, r, rfl, hll, hO1, hO2, hO3, hS, hg⟩
   have hzz := hL.gr.size
   have he : ExO w7 w4.heap.size ⟨L, A1, c1, l1, A2, c2, l2, A3, c3, l3, p, q, r⟩ := ⟨hO1.mono hzz, hO2.mono hzz, hO3.mono hzz, hll⟩
   have hL := hL.src hS hg
   obtain ⟨hkg, hke⟩ := HH.out
   have hzz := hL.gr.size
   clear hS hg hO1 hO2 hO3 hll
   go_wp2_with (at_builtin; refine wpList_append_rows _ rfl _ _ _ rfl w4.heap.size 31 i0 _ 7 104 Tryz.underlying41 hi hz0 hz1 hz2 rfl (by omega) _ _ rfl (hL.o.alloc _) _ _ _ _ [ExR.cells ⟨L, A1, c1, l1, A2, c2, l2, A3, c3, l3, p, q, r⟩] rfl rfl (Sl.of_blk (Blk.new' _ _ _ (by first | rfl | simp)) _ rfl (by simp [ExR.cells])) (ExR.one (l := [⟨L, A1, c1, l1, A2, c2, l2, A3, c3, l3, p, q, r⟩])) (by simp; unfold maxLen; omega) (by simp; omega) (by first | omega | (simp; omega)) ?_; intro v1 w8 hO3' hg3 hat3)
   obtain ⟨Al', cl', hv1, hL'⟩ := hL.push he _ hO3' hg3
   go_roundg (k - 1)
   case measure => omega
   case rel => exact ⟨es ++ [⟨L, A1, c1, l1, A2, c2, l2, A3, c3, l3, p, q, r⟩], Al', cl', k - 1, hv1, rfl, by omega, by simp; omega, hL'⟩
  ·have hes : es.length ≤ 4 := by omega
   have hkz : k = 0 := by omega
   clear hkg hke hk0
   subst hkz
   go_wp2_with fail
   refine (l01Next_c A n c g _ _ hL.s).mono ?_; rintro e w8 ⟨x8, rfl, _, _, hS, hg⟩
   have hL := hL.src hS hg
   clear hS hg
   by_cases x80 : x8 = 0
   ·subst x80
    go_wp2_with fail
    refine (l31Draw_c A n c g _ hL.s).mono ?_; rintro e w9 ⟨L, l1, l2, l3, A1, A2, A3, c1, c2, c3, p, q, r, rfl, hll, hO1, hO2, hO3, hS, hg⟩
    have hzz := hL.gr.size
    have he : ExO w9 w4.heap.size ⟨L, A1, c1, l1, A2, c2, l2, A3, c3, l3, p, q, r⟩ := ⟨hO1.mono hzz, hO2.mono hzz, hO3.mono hzz, hll⟩
    have hL2 := hL.src hS hg
    have hL := (hL2.held he).alloc (.cells #[.int .i64 L, .slice A1 l1.length c1, .slice A2 l2.length c2, .slice A3 l3.length c3, .int .i64 p, .int .i64 q, .int .i64 r] 31)
    have B8 := Blk.new w9 31 #[.int .i64 L, .slice A1 l1.length c1, .slice A2 l2.length c2, .slice A3 l3.length c3, .int .i64 p, .int .i64 q, .int .i64 r]
    have hx8 : w9.heap.size ≠ g := by have := hS.lt; omega
    have hne8 : some w9.heap.size ≠ (Value.slice Al es.length cl).ownBlock := fun e => by have := (hL2.o.1.lt _ e.symm).2; omega
    clear hS hg hO1 hO2 hO3 hll he hL2
    go_wp2_with fail
    generalize w9.alloc (.cells #[.int .i64 L, .slice A1 l1.length c1, .slice A2 l2.length c2, .slice A3 l3.length c3, .int .i64 p, .int .i64 q, .int .i64 r] 31) = w10 at *
    generalize w9.heap.size = b8 at *
    have hV : ∃ (es9 : List ExR) (Al9 : Option Addr) (cl9 : Nat), (Value.slice Al es.length cl) = .slice Al9 es9.length cl9 ∧ es9.length ≤ 40 ∧ EsS A n c g w4 [⟨L, A1, c1, l1, A2, c2, l2, A3, c3, l3, p, q, r⟩] es9 Al9 cl9 w10 ∧ Blk w10 b8 31 #[.int .i64 L, .slice A1 l1.length c1, .slice A2 l2.length c2, .slice A3 l3.length c3, .int .i64 p, .int .i64 q, .int .i64 r] ∧ some b8 ≠ (Value.slice Al9 es9.length cl9).ownBlock := ⟨es, Al, cl, rfl, by omega, hL, B8, hne8⟩
    clear hL B8 hne8 hes
    go_loopg [4] 40 (fun gx s4 wr => ∃ (es : List ExR) (Al : Option Addr) (cl : Nat), s4 = .slice Al es.length cl ∧ (es.length ≤ 40 ∧ 40 - es.length ≤ gx) ∧ EsS A n c g w4 [⟨L, A1, c1, l1, A2, c2, l2, A3, c3, l3, p, q, r⟩] es Al cl wr ∧ Blk wr b8 31 #[.int .i64 L, .slice A1 l1.length c1, .slice A2 l2.length c2, .slice A3 l3.length c3, .int .i64 p, .int .i64 q, .int .i64 r] ∧ some b8 ≠ (Value.slice Al es.length cl).ownBlock)
    case atStart =>
     obtain ⟨es9, Al9, cl9, h1, h2, h3, h4, h5⟩ := hV
     exact ⟨es9, Al9, cl9, h1, by omega, h3, h4, h5⟩
    case round =>
     clear hV
     obtain ⟨es, Al, cl, hs6, hes9, hL, B8, hne8⟩ := hrel
     subst hs6
     go_wp2_with fail
     refine (l01Next_c A n c g _ _ hL.s).mono ?_; rintro e w11 ⟨r1, rfl, ⟨r1a, r1b⟩, r1d, hS, hg⟩
     have hL := hL.src hS hg
     have B8 := B8.src hg hx8
     clear hS hg
     have hlI : (es.length : Int) ≤ 40 := by omega
     by_cases hlt2 : (es.length : Int) < 20 + r1
     ·have y0_ : w11.cell? ⟨b8, 0, none⟩ = some (.int .i64 L) := B8.cell 0
      have y1_ : w11.cell? ⟨b8, 1, none⟩ = some (.slice A1 l1.length c1) := B8.cell 1
      have y2_ : w11.cell? ⟨b8, 2, none⟩ = some (.slice A2 l2.length c2) := B8.cell 2
      have y3_ : w11.cell? ⟨b8, 3, none⟩ = some (.slice A3 l3.length c3) := B8.cell 3
      have y4_ : w11.cell? ⟨b8, 4, none⟩ = some (.int .i64 p) := B8.cell 4
      have y5_ : w11.cell? ⟨b8, 5, none⟩ = some (.int .i64 q) := B8.cell 5
      have y6_ : w11.cell? ⟨b8, 6, none⟩ = some (.int .i64 r) := B8.cell 6
      have hbl := B8.lt
      have hzz := hL.gr.size
      have he := hL.m ⟨L, A1, c1, l1, A2, c2, l2, A3, c3, l3, p, q, r⟩ (by simp)
      go_wp2_with (at_builtin; refine wpList_append_rows _ rfl _ _ _ rfl w4.heap.size 31 i0 _ 7 104 Tryz.underlying41 hi hz0 hz1 hz2 rfl (by omega) _ _ rfl (hL.o.alloc _) _ _ _ _ [ExR.cells ⟨L, A1, c1, l1, A2, c2, l2, A3, c3, l3, p, q, r⟩] rfl rfl (Sl.of_blk (Blk.new' _ _ _ (by first | rfl | simp)) _ rfl (by simp [ExR.cells])) (ExR.one (l := [⟨L, A1, c1, l1, A2, c2, l2, A3, c3, l3, p, q, r⟩])) (by simp; unfold maxLen; omega) (by simp; omega) (by first | omega | (simp; omega)) ?_; intro v1 w8' hO3' hg3 hat3)
      obtain ⟨Al', cl', hv1, hL'⟩ := hL.push he _ hO3' hg3
      have B8' : Blk w8' b8 31 #[.int .i64 L, .slice A1 l1.length c1, .slice A2 l2.length c2, .slice A3 l3.length c3, .int .i64 p, .int .i64 q, .int .i64 r] := (hg3.block b8 (by simp; omega) hne8).trans (B8.alloc _)
      have hne8' : some b8 ≠ (Value.slice Al' (es ++ [(⟨L, A1, c1, l1, A2, c2, l2, A3, c3, l3, p, q, r⟩ : ExR)]).length cl').ownBlock := by
       rw [← hv1]
       rcases hat3 with h2 | h2
       ·rw [h2]; exact hne8
       ·rw [h2]; simp; omega
      go_roundg (40 - (es.length + 1))
      case measure => omega
      case rel => exact ⟨es ++ [⟨L, A1, c1, l1, A2, c2, l2, A3, c3, l3, p, q, r⟩], Al', cl', hv1, by simp; omega, hL', B8', hne8'⟩
     ·have hes : es.length ≤ 40 := hes9.1
      clear hlI B8
      have hltd : decide ((es.length : Int) < 20 + r1) = false := decide_eq_false hlt2
      have hBf := below_src hB hL.gr (by omega) (Nat.le_refl _)
      go_wp2_with fail
      go_ret
      exact ⟨es, Al, cl, rfl, hL.in_ (by omega), ⟨by omega, hL.o.le_cap⟩, by rw [hgw]; exact hBf⟩
   ·have x80' : (x8 == 0) = false := by simpa using x80
    have hBf := below_src hB hL.gr (by omega) (Nat.le_refl _)
    go_wp2_with fail
    go_ret
    exact ⟨es, Al, cl, rfl, hL.in_ (by omega), ⟨by omega, hL.o.le_cap⟩, by rw [hgw]; exact hBf⟩
end Go.Proofs.YtednjmldjbndhaaGreat
namespace Go.Proofs.YtednjmldjbndhaaGreat
open Go.RowKit
/-- a plan and a code -/
def PlP (ms : List Move) (code : Int) (w : World) (e : Ending) (w' : World) : Prop := ∃ (A' : Option Addr) (c' : Nat), e = .returned (.tuple #[.slice A' ms.length c', .int .i64 code]) ∧ Below w.heap.size w w'
set_option maxRecDepth 100000 in
set_option maxHeartbeats 1000000 in
theorem implPlanFor_c (L : Int) (A1 : Option Addr) (c1 : Nat) (l1 : List Int) (A2 : Option Addr) (c2 : Nat) (l2 : List Int) (A3 : Option Addr) (c3 : Nat) (l3 : List Term) (w : World) (E : ExIn w A1 c1 l1 A2 c2 l2 A3 c3 l3) :
  Calls Tryz.prog 36 #[.agg #[.int .i64 L, .slice A1 l1.length c1, .slice A2 l2.length c2], .slice A3 l3.length c3] w (PlP (planL L l1 l2 l3) (planCode L l1 l2 l3) w) := by
 have hW : Below w.heap.size w (w.alloc (.cells #[.int .i64 L, .slice A1 l1.length c1, .slice A2 l2.length c2] 26)) := (by repeat first | with_reducible (first | exact Below.refl _ _ | apply below_drewN' | apply Below.drew | refine Below.alloc ?_ ?_ _ | refine Below.setCell ?_ ?_ _) | exact Below.refl _ _ | omega | (simp <;> omega) | (have := (Below.refl _ _).size; first | omega | (simp <;> omega)))
 have B0 := Blk.new w 26 #[.int .i64 L, .slice A1 l1.length c1, .slice A2 l2.length c2]
 have HC := Lib.hid (have Q := E.later hW; checkPlan_c L A1 c1 l1 A2 c2 l2 A3 c3 l3 _ Q.h1 Q.h2 Q.h3 Q.k1 Q.k2 Q.s1 Q.s2 Q.s3)
 have HU : Hid (planCode L l1 l2 l3 = 0 → ∀ W, Below w.heap.size w W → _) := fun h W hW => have P := plan_parts h; have K := chainB_parts P.2.1; usualPlan_c L A1 c1 l1 A2 c2 l2 A3 c3 l3 W ((E.later hW).rule P.2.2.1 P.2.2.2) K.1 K.2.1 E.k3 K.2.2.1 (E.later hW).s3
 have hpl : planCode L l1 l2 l3 = 0 → planL L l1 l2 l3 = (usualP l3).ms := fun h => by unfold planL; rw [if_pos h]
 have hpn : planCode L l1 l2 l3 ≠ 0 → planL L l1 l2 l3 = [] := fun h => by unfold planL; rw [if_neg h]
 clear E
 generalize planL L l1 l2 l3 = pl at *
 generalize planCode L l1 l2 l3 = pc at *
 unfold PlP
 by_cases h0 : pc = 0
 ·have hp := hpl h0
  subst h0
  have HU2 := HU.out rfl
  rw [← hp] at HU2
  have HU2 := Lib.hid HU2
  clear HU hpl hpn hp
  go_enter Tryz.func36, Tryz.ntmps36
  go_wp2_with fail
  generalize w.alloc (.cells #[.int .i64 L, .slice A1 l1.length c1, .slice A2 l2.length c2] 26) = W at *
  refine Calls.mono HC.out ?_; rintro e w1 ⟨rfl, hb1⟩
  have hW1 := hW.trans (hb1.mono hW.size)
  have C0 := B0.below hb1 B0.lt
  have r0 : w1.cell? ⟨w.heap.size, 0, none⟩ = some (.int .i64 L) := C0.cell 0
  have r1 : w1.cell? ⟨w.heap.size, 1, none⟩ = some (.slice A1 l1.length c1) := C0.cell 1
  have r2 : w1.cell? ⟨w.heap.size, 2, none⟩ = some (.slice A2 l2.length c2) := C0.cell 2
  clear B0 hW hb1 HC
  go_wp2_with fail
  refine Calls.mono (HU2.out w1 hW1) ?_; rintro e w2 ⟨A', c', rfl, _, hb2⟩
  have hW2 := hW1.trans (hb2.mono hW1.size)
  clear hb2
  go_wp2
  go_ret2
  exact ⟨A', c', rfl, (by repeat first | with_reducible (first | exact hW2 | apply below_drewN' | apply Below.drew | refine Below.alloc ?_ ?_ _ | refine Below.setCell ?_ ?_ _) | exact hW2 | omega | (simp <;> omega) | (have := (hW2).size; first | omega | (simp <;> omega)))⟩
 ·have hp := hpn h0
  subst hp
  have hne : (pc != 0) = true := by simpa using h0
  clear HU hpl hpn h0
  go_enter Tryz.func36, Tryz.ntmps36
  go_wp2_with fail
  refine Calls.mono HC.out ?_; rintro e w1 ⟨rfl, hb1⟩
  have hW1 := hW.trans (hb1.mono hW.size)
  go_wp2
  go_ret2
  exact ⟨none, 0, rfl, hW1⟩
set_option maxRecDepth 100000 in
set_option maxHeartbeats 1000000 in
theorem implCountPlan_c (L : Int) (A1 : Option Addr) (c1 : Nat) (l1 : List Int) (A2 : Option Addr) (c2 : Nat) (l2 : List Int) (A3 : Option Addr) (c3 : Nat) (l3 : List Term) (w : World) (E : ExIn w A1 c1 l1 A2 c2 l2 A3 c3 l3) :
  Calls Tryz.prog 19 #[.agg #[.int .i64 L, .slice A1 l1.length c1, .slice A2 l2.length c2], .slice A3 l3.length c3] w fun e w' => e = .returned (.tuple #[.int .i64 (planL L l1 l2 l3).length, .int .i64 (planCode L l1 l2 l3)]) ∧ Below w.heap.size w w' := by
 have hW : Below w.heap.size w (w.alloc (.cells #[.int .i64 L, .slice A1 l1.length c1, .slice A2 l2.length c2] 26)) := (by repeat first | with_reducible (first | exact Below.refl _ _ | apply below_drewN' | apply Below.drew | refine Below.alloc ?_ ?_ _ | refine Below.setCell ?_ ?_ _) | exact Below.refl _ _ | omega | (simp <;> omega) | (have := (Below.refl _ _).size; first | omega | (simp <;> omega)))
 have HP := Lib.hid (implPlanFor_c L A1 c1 l1 A2 c2 l2 A3 c3 l3 _ (E.later hW))
 clear E
 generalize planL L l1 l2 l3 = pl at *
 generalize planCode L l1 l2 l3 = pc at *
 go_enter Tryz.func19, Tryz.ntmps19
 go_wp2_with fail
 refine Calls.mono HP.out ?_; rintro e w1 ⟨A', c', rfl, hb1⟩
 have hW1 := hW.trans (hb1.mono hW.size)
 go_wp2
 go_ret2
 exact ⟨rfl, hW1⟩
end Go.Proofs.YtednjmldjbndhaaGreat
namespace Go.Proofs.YtednjmldjbndhaaGreat
open Go.RowKit
/-- seed, terms, rule, errors, drawn -/
def DMk (w : World) (e : Ending) (w' : World) : Prop := ∃ (sd tm L : Int) (l1 l2 : List Int) (A1 A2 : Option Addr) (c1 c2 : Nat) (p q r : Int), e = .returned (.tuple #[.int .i64 sd, .int .i64 tm, .agg #[.int .i64 L, .slice A1 l1.length c1, .slice A2 l2.length c2], .agg #[.int .i64 p, .int .i64 q, .int .i64 r]]) ∧
 (l1.length ≤ 100 ∧ l2.length ≤ 100 ∧ l1.length ≤ c1 ∧ l2.length ≤ c2) ∧ Sl w' w'.heap.size 1 A1 (l1.map ic) ∧ Sl w' w'.heap.size 1 A2 (l2.map ic) ∧ Below w.heap.size w w'
theorem Src.setLow {v : World} {A : Option Addr} {n c g B q j : Nat} {u : Value} (h : Src v A n c g) (hy : Bytes v A n B) (hB : B ≤ q) (hq : q ≠ g) (hg : B ≤ g) : Src (v.setCell ⟨q, j, none⟩ u) A n c g := by
 obtain ⟨⟨_, h2⟩, a, s, hb, ha, hs⟩ := h
 exact ⟨⟨(hy.keep fun p hp => World.cell?_of_block (Below.heap_setCell _ _ _ _ (by simp only; omega))).more hg, h2⟩, a, s, (Below.heap_setCell _ _ _ _ (by simp only; omega)).trans hb, ha, hs⟩
theorem Bytes.setUp {v : World} {A : Option Addr} {n B q j : Nat} {u : Value} (hy : Bytes v A n B) (hB : B ≤ q) : Bytes (v.setCell ⟨q, j, none⟩ u) A n B := hy.keep fun p hp => World.cell?_of_block (Below.heap_setCell _ _ _ _ (by simp only; omega))
/-- while the numbers are drawn, in any order -/
structure MkS9 (A : Option Addr) (n c g z0 base b7 : Nat) (w : World) (rc : Array Value) (u1 u2 : Value) (r1 r2 : List (List Value)) (b14 b16 b18 b19 b20 b22 b23 b26 bS bT b2 b3 : Bool) (v14 v16 v18 v19 v20 v22 v23 v26 v2 v3 : Value) (v : World) : Prop where
 s : Src v A n c g
 y : Bytes v A n z0
 hb : Below z0 w v
 gg : g = z0 + 1 + 1 ∧ g < base ∧ g < b7
 zl : z0 ≤ v.heap.size
 o1 : Own v base 2 1 u1 r1
 o2 : Own v base 2 1 u2 r2
 b7_ : Blk v b7 26 rc
 rF : bS = false → Blk v z0 26 #[.int .i64 0, .slice none 0 0, .slice none 0 0]
 rT : bS = true → Blk v z0 26 rc
 eF : bT = false → Blk v (z0 + 1) 29 #[.int .i64 0, .int .i64 0, .int .i64 0]
 eT : bT = true → ∃ p q r : Int, Blk v (z0 + 1) 29 #[.int .i64 p, .int .i64 q, .int .i64 r]
 l14 : b14 = true → ∃ x : Int, v14 = .int .i64 x ∧ 0 ≤ x ∧ x ≤ 200000000
 l16 : b16 = true → ∃ x : Int, v16 = .int .i64 x ∧ 0 ≤ x ∧ x ≤ 200000000
 l18 : b18 = true → ∃ x : Int, v18 = .int .i64 x ∧ 0 ≤ x ∧ x ≤ 200000000
 l19 : b19 = true → ∃ (b : Nat) (x y z : Int), v19 = .slice (some ⟨b, 0, none⟩) 6 6 ∧ Blk v b 2 #[.int .i64 x, .int .i64 y, .int .i64 1000000, .int .i64 1000001, .int .i64 (-1), .int .i64 z] ∧ g < b ∧ (0 ≤ x ∧ x ≤ 200000000) ∧ (0 ≤ y ∧ y ≤ 200000000) ∧ (0 ≤ z ∧ z ≤ 200000000)
 l20 : b20 = true → ∃ x : Int, v20 = .int .i64 x
 l22 : b22 = true → ∃ b : Nat, v22 = .slice (some ⟨b, 0, none⟩) 8 8 ∧ Blk v b 2 #[.int .i64 1, .int .i64 2, .int .i64 3, .int .i64 4, .int .i64 5, .int .i64 6, .int .i64 7, .int .i64 0] ∧ g < b
 l23 : b23 = true → ∃ x : Int, v23 = .int .i64 x
 l26 : b26 = true → ∃ p q r : Int, v26 = .agg #[.int .i64 p, .int .i64 q, .int .i64 r]
 l2_ : b2 = true → ∃ x : Int, v2 = .int .i64 x
 l3_ : b3 = true → ∃ x : Int, v3 = .int .i64 x
section
variable {A : Option Addr} {n c g z0 base b7 : Nat} {w v v' : World} {rc : Array Value} {u1 u2 : Value} {r1 r2 : List (List Value)} {b14 b16 b18 b19 b20 b22 b23 b26 bS bT b2 b3 : Bool} {v14 v16 v18 v19 v20 v22 v23 v26 v2 v3 : Value}
theorem MkS9.dr (h : MkS9 A n c g z0 base b7 w rc u1 u2 r1 r2 b14 b16 b18 b19 b20 b22 b23 b26 bS bT b2 b3 v14 v16 v18 v19 v20 v22 v23 v26 v2 v3 v) (hS : Src v' A n c g) (hg : v.grownBy v' (some g)) : MkS9 A n c g z0 base b7 w rc u1 u2 r1 r2 b14 b16 b18 b19 b20 b22 b23 b26 bS bT b2 b3 v14 v16 v18 v19 v20 v22 v23 v26 v2 v3 v' :=
 have gg := h.gg
 have zl := h.zl
 ⟨hS, h.y.keep (fun p hp => World.cell?_of_block (hg.block p.block (by omega) (fun e => by cases e; omega))), below_src h.hb hg zl (by omega), gg, Nat.le_trans zl hg.size, h.o1.src hg gg.2.1, h.o2.src hg gg.2.1, h.b7_.src hg (by omega), fun e => (h.rF e).src hg (by omega), fun e => (h.rT e).src hg (by omega), fun e => (h.eF e).src hg (by omega), fun e => (by obtain ⟨p, q, r, B⟩ := h.eT e; exact ⟨p, q, r, B.src hg (by omega)⟩), h.l14, h.l16, h.l18, fun e => (by obtain ⟨b, x, y, z, r1, r2, r3, r4⟩ := h.l19 e; exact ⟨b, x, y, z, r1, r2.src hg (by omega), r3, r4⟩), h.l20, fun e => (by obtain ⟨b, r1, r2, r3⟩ := h.l22 e; exact ⟨b, r1, r2.src hg (by omega), r3⟩), h.l23, h.l26, h.l2_, h.l3_⟩
theorem MkS9.drew (h : MkS9 A n c g z0 base b7 w rc u1 u2 r1 r2 b14 b16 b18 b19 b20 b22 b23 b26 bS bT b2 b3 v14 v16 v18 v19 v20 v22 v23 v26 v2 v3 v) : MkS9 A n c g z0 base b7 w rc u1 u2 r1 r2 b14 b16 b18 b19 b20 b22 b23 b26 bS bT b2 b3 v14 v16 v18 v19 v20 v22 v23 v26 v2 v3 v.drew :=
 ⟨h.s.keep fun _ _ => rfl, h.y.keep fun _ _ => rfl, h.hb.drew, h.gg, h.zl, h.o1.drewN 1, h.o2.drewN 1, h.b7_.drewN 1, fun e => (h.rF e).drewN 1, fun e => (h.rT e).drewN 1, fun e => (h.eF e).drewN 1, fun e => (by obtain ⟨p, q, r, B⟩ := h.eT e; exact ⟨p, q, r, B.drewN 1⟩), h.l14, h.l16, h.l18, fun e => (by obtain ⟨b, x, y, z, r1, r2, r3⟩ := h.l19 e; exact ⟨b, x, y, z, r1, r2.drewN 1, r3⟩), h.l20, fun e => (by obtain ⟨b, r1, r2, r3⟩ := h.l22 e; exact ⟨b, r1, r2.drewN 1, r3⟩), h.l23, h.l26, h.l2_, h.l3_⟩
theorem MkS9.s19 (h : MkS9 A n c g z0 base b7 w rc u1 u2 r1 r2 b14 b16 b18 b19 b20 b22 b23 b26 bS bT b2 b3 v14 v16 v18 v19 v20 v22 v23 v26 v2 v3 v) {x y z : Int} (hx : 0 ≤ x ∧ x ≤ 200000000) (hy : 0 ≤ y ∧ y ≤ 200000000) (hz : 0 ≤ z ∧ z ≤ 200000000) : MkS9 A n c g z0 base b7 w rc u1 u2 r1 r2 b14 b16 b18 true b20 b22 b23 b26 bS bT b2 b3 v14 v16 v18 (.slice (some ⟨v.heap.size, 0, none⟩) 6 6) v20 v22 v23 v26 v2 v3 (v.alloc (.cells #[.int .i64 x, .int .i64 y, .int .i64 1000000, .int .i64 1000001, .int .i64 (-1), .int .i64 z] 2)) :=
 have h' := h.dr (h.s.alloc (.cells #[.int .i64 x, .int .i64 y, .int .i64 1000000, .int .i64 1000001, .int .i64 (-1), .int .i64 z] 2)) (grown_alloc _ _)
 { h' with l19 := fun _ => ⟨_, x, y, z, rfl, Blk.new _ _ _, h.s.lt, hx, hy, hz⟩ }
theorem MkS9.s22 (h : MkS9 A n c g z0 base b7 w rc u1 u2 r1 r2 b14 b16 b18 b19 b20 b22 b23 b26 bS bT b2 b3 v14 v16 v18 v19 v20 v22 v23 v26 v2 v3 v) : MkS9 A n c g z0 base b7 w rc u1 u2 r1 r2 b14 b16 b18 b19 b20 true b23 b26 bS bT b2 b3 v14 v16 v18 v19 v20 (.slice (some ⟨v.heap.size, 0, none⟩) 8 8) v23 v26 v2 v3 (v.alloc (.cells #[.int .i64 1, .int .i64 2, .int .i64 3, .int .i64 4, .int .i64 5, .int .i64 6, .int .i64 7, .int .i64 0] 2)) :=
 have h' := h.dr (h.s.alloc (.cells #[.int .i64 1, .int .i64 2, .int .i64 3, .int .i64 4, .int .i64 5, .int .i64 6, .int .i64 7, .int .i64 0] 2)) (grown_alloc _ _)
 { h' with l22 := fun _ => ⟨_, rfl, Blk.new _ _ _, h.s.lt⟩ }
theorem MkS9.sR {L : Int} {S1 S2 : Value} (h : MkS9 A n c g z0 base b7 w #[.int .i64 L, S1, S2] u1 u2 r1 r2 b14 b16 b18 b19 b20 b22 b23 b26 bS bT b2 b3 v14 v16 v18 v19 v20 v22 v23 v26 v2 v3 v) (hf : bS = false) : MkS9 A n c g z0 base b7 w #[.int .i64 L, S1, S2] u1 u2 r1 r2 b14 b16 b18 b19 b20 b22 b23 b26 true bT b2 b3 v14 v16 v18 v19 v20 v22 v23 v26 v2 v3 (((v.setCell ⟨z0, 0, none⟩ (.int .i64 L)).setCell ⟨z0, 1, none⟩ (S1)).setCell ⟨z0, 2, none⟩ (S2)) := by
 have gg := h.gg
 have zl := h.zl
 exact ⟨(((h.s.setLow h.y (by omega) (by omega) (by omega)).setLow (h.y.setUp (by omega)) (by omega) (by omega) (by omega)).setLow ((h.y.setUp (by omega)).setUp (by omega)) (by omega) (by omega) (by omega)), (((h.y.setUp (by omega)).setUp (by omega)).setUp (by omega)), (by repeat first | with_reducible (first | exact h.hb | apply below_drewN' | apply Below.drew | refine Below.alloc ?_ ?_ _ | refine Below.setCell ?_ ?_ _) | exact h.hb | omega | (simp <;> omega) | (have := (h.hb).size; first | omega | (simp <;> omega))), gg, by simpa using zl, (((h.o1.setLt (by omega)).setLt (by omega)).setLt (by omega)), (((h.o2.setLt (by omega)).setLt (by omega)).setLt (by omega)), (((h.b7_.far (by simp only; omega) _).far (by simp only; omega) _).far (by simp only; omega) _), nofun, fun _ => ((((h.rF hf).set_ 0 _).set_ 1 _).set_ 2 _), fun e => ((((h.eF e).far (by simp only; omega) _).far (by simp only; omega) _).far (by simp only; omega) _), fun e => (by obtain ⟨p, q, r, B⟩ := h.eT e; exact ⟨p, q, r, (((B.far (by simp only; omega) _).far (by simp only; omega) _).far (by simp only; omega) _)⟩), h.l14, h.l16, h.l18, fun e => (by obtain ⟨b, x, y, z, r1, r2, r3, r4⟩ := h.l19 e; exact ⟨b, x, y, z, r1, (((r2.far (by simp only; omega) _).far (by simp only; omega) _).far (by simp only; omega) _), r3, r4⟩), h.l20, fun e => (by obtain ⟨b, r1, r2, r3⟩ := h.l22 e; exact ⟨b, r1, (((r2.far (by simp only; omega) _).far (by simp only; omega) _).far (by simp only; omega) _), r3⟩), h.l23, h.l26, h.l2_, h.l3_⟩
theorem MkS9.sE {p q r : Int} (h : MkS9 A n c g z0 base b7 w rc u1 u2 r1 r2 b14 b16 b18 b19 b20 b22 b23 b26 bS bT b2 b3 v14 v16 v18 v19 v20 v22 v23 v26 v2 v3 v) (hf : bT = false) : MkS9 A n c g z0 base b7 w rc u1 u2 r1 r2 b14 b16 b18 b19 b20 b22 b23 b26 bS true b2 b3 v14 v16 v18 v19 v20 v22 v23 v26 v2 v3 (((v.setCell ⟨z0 + 1, 0, none⟩ (.int .i64 p)).setCell ⟨z0 + 1, 1, none⟩ (.int .i64 q)).setCell ⟨z0 + 1, 2, none⟩ (.int .i64 r)) := by
 have gg := h.gg
 have zl := h.zl
 exact ⟨(((h.s.setLow h.y (by omega) (by omega) (by omega)).setLow (h.y.setUp (by omega)) (by omega) (by omega) (by omega)).setLow ((h.y.setUp (by omega)).setUp (by omega)) (by omega) (by omega) (by omega)), (((h.y.setUp (by omega)).setUp (by omega)).setUp (by omega)), (by repeat first | with_reducible (first | exact h.hb | apply below_drewN' | apply Below.drew | refine Below.alloc ?_ ?_ _ | refine Below.setCell ?_ ?_ _) | exact h.hb | omega | (simp <;> omega) | (have := (h.hb).size; first | omega | (simp <;> omega))), gg, by simpa using zl, (((h.o1.setLt (by omega)).setLt (by omega)).setLt (by omega)), (((h.o2.setLt (by omega)).setLt (by omega)).setLt (by omega)), (((h.b7_.far (by simp only; omega) _).far (by simp only; omega) _).far (by simp only; omega) _), fun e => ((((h.rF e).far (by simp only; omega) _).far (by simp only; omega) _).far (by simp only; omega) _), fun e => ((((h.rT e).far (by simp only; omega) _).far (by simp only; omega) _).far (by simp only; omega) _), nofun, fun _ => ⟨p, q, r, ((((h.eF hf).set_ 0 _).set_ 1 _).set_ 2 _)⟩, h.l14, h.l16, h.l18, fun e => (by obtain ⟨b, x, y, z, r1, r2, r3, r4⟩ := h.l19 e; exact ⟨b, x, y, z, r1, (((r2.far (by simp only; omega) _).far (by simp only; omega) _).far (by simp only; omega) _), r3, r4⟩), h.l20, fun e => (by obtain ⟨b, r1, r2, r3⟩ := h.l22 e; exact ⟨b, r1, (((r2.far (by simp only; omega) _).far (by simp only; omega) _).far (by simp only; omega) _), r3⟩), h.l23, h.l26, h.l2_, h.l3_⟩
end
end Go.Proofs.YtednjmldjbndhaaGreat
