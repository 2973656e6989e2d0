/- How a law's row is closed: from a walk that returns true and leaves all old memory as it was. How a law's arguments are opened: structs that hold slices, slices of such structs. No condition of their own. How exercises, rules and answers are opened as a law's arguments. No condition of their own. FnExactIsExercise's walk: for every exercise the law returns true. Conditions: what an argument always is. -/
import Derived.Test.YtgkobjpoeajkdaaGreatRows
import Derived.WalkKit
import Derived.ProofKit
import Derived.OpenShut
import Derived.SizedLaws
import Derived.Deep.Slices
import Derived.Deep.Fields
import Derived.Lib.SmallJoins
import Derived.Test.YtgkobjpoeajkdaaGreatKMakeExercise1
import Derived.Test.YtgkobjpoeajkdaaGreatKMakeExercise14
import Derived.Test.YtgkobjpoeajkdaaGreatKMakeExercise15
namespace Go.Proofs.YtgkobjpoeajkdaaGreat
open Go.ChangeShapes Go.WideShapes Go.ChangeAt Go.RowKit Go.Deep

theorem own : ownKnob Tryz.prog.godebug = none := by kernel_rfl
set_option maxRecDepth 100000 in
theorem laidOut : laidOutB Tryz.prog = true := by kernel_rfl

section
variable {H : Type} {enc : TypeId × Value → H} {P : Program}
theorem trodAll_below (hl : laidOutB P = true) {W W' : World} (hb : Below W.heap.size W W') :
    ∀ (ts : List TypeId) (vs : List Value) (ds : List (DataW H)) (ps : List MemPlace), ts.all (fun t => P.readableRec t && decide (t < P.types.size)) = true →
      (∀ x ∈ ps, x.block < W.heap.size) → DataW.TrodAll enc P W 0 (fun _ => true) true ts vs ds ps → DataW.TrodAll enc P W' 0 (fun b => decide (b < W.heap.size)) true ts vs ds ps := by
  intro ts
  induction ts with
  | nil =>
    intro vs ds ps _ _ h
    obtain ⟨rfl, rfl, rfl⟩ := trodAll_nil h
    exact trodAll_mk0
  | cons t ts ih =>
    intro vs ds ps hr hlt h
    obtain ⟨v, vs', d, ds', p, q, rfl, rfl, rfl, h0, h1⟩ := trodAll_cons h
    simp only [List.all_cons, Bool.and_eq_true, decide_eq_true_eq] at hr
    exact trodAll_cons_mk (Below.trod hl hr.1.1 hr.1.2 h0 hb fun x hx => hlt x (List.mem_append_left _ hx)) (ih vs' ds' q (by simpa using hr.2) (fun x hx => hlt x (List.mem_append_right _ hx)) h1)

theorem trodAll_length {w : World} {base : Nat} {spare : Nat → Bool} {held : Bool} :
    ∀ (ts : List TypeId) (vs : List Value) (ds : List (DataW H)) (ps : List MemPlace), DataW.TrodAll enc P w base spare held ts vs ds ps → ds.length = ts.length := by
  intro ts
  induction ts with
  | nil => intro vs ds ps h; obtain ⟨rfl, rfl, rfl⟩ := trodAll_nil h; rfl
  | cons t ts ih =>
    intro vs ds ps h
    obtain ⟨v, vs', d, ds', p, q, rfl, rfl, rfl, h0, h1⟩ := trodAll_cons h
    simp [ih _ _ _ h1]
end

theorem bounds_i64 {n : Int} (h : (Lit.int .i64 n).wf = true) : -9223372036854775808 ≤ n ∧ n ≤ 9223372036854775807 := by
  simpa [Lit.wf, IntKind.min, IntKind.max, IntKind.signed, IntKind.bits] using h


section
variable {H : Type} {enc : TypeId × Value → H} {P : Program} {w : World} {base : Nat} {spare : Nat → Bool} {held : Bool}
/-- A struct of int64 fields, read as data. -/
theorem struct_ints {t tI : TypeId} {fs : Array Field} {n : Nat} {cs : List Value} {y : DataW H × List MemPlace} (ht : P.underlying t = some (.struct fs)) (hI : P.underlying tI = some (.int .i64)) (hone : oneCellFields P fs = true)
    (hall : fs.all (fun f => f.type == tI) = true) (hC : P.cellsOf t = fs.size) (h : DataW.trod enc P w base spare held n t cs = some y) :
    ∃ ns : List Int, ns.length = fs.size ∧ cs = ns.map (Value.int .i64) ∧ ∀ m ∈ ns, (Lit.int .i64 m).wf = true := by
  obtain ⟨xs, n', _, _, hlen, hxl, hf⟩ := DataW.trod_struct ht h
  rw [hC] at hlen
  have hcell : ∀ i, i < fs.size → ∃ m, cs[i]? = some (Value.int .i64 m) ∧ (Lit.int .i64 m).wf = true := by
    intro i hi
    have hfi : fs[i]? = some fs[i] := Array.getElem?_eq_getElem hi
    obtain ⟨ho, hk⟩ := hone_of hone i _ hfi
    have hty : fs[i].type = tI := by
      have := Array.all_eq_true.1 hall i hi
      simpa using this
    have h1 := hf i _ hfi
    rw [ho, hk, hty] at h1
    have hone' : (cs.drop i).take 1 = [cs[i]'(by omega)] := by
      rw [List.drop_eq_getElem_cons (by omega)]; rfl
    rw [hone', List.getElem?_eq_getElem (show i < xs.length by omega)] at h1
    obtain ⟨m, hm, _, hwf⟩ := DataW.trod_int hI h1
    simp only [List.cons.injEq, and_true] at hm
    exact ⟨m, by rw [List.getElem?_eq_getElem (by omega), hm], hwf⟩
  refine ⟨cs.map intOf, by simpa using hlen, ?_, ?_⟩
  · apply List.ext_getElem?
    intro i
    by_cases hi : i < fs.size
    · obtain ⟨m, hm, _⟩ := hcell i hi
      simp [hm, intOf]
    · rw [List.getElem?_eq_none (by omega), List.getElem?_eq_none (by simp; omega)]
  · intro m hm
    obtain ⟨v, hv, rfl⟩ := List.mem_map.1 hm
    obtain ⟨i, hi, rfl⟩ := List.getElem_of_mem hv
    obtain ⟨m, hm', hwf⟩ := hcell i (by omega)
    rw [List.getElem?_eq_getElem hi] at hm'
    simp only [Option.some.injEq] at hm'
    rw [hm']
    exact hwf

/-- An argument that is a slice of structs: the rows of its cells. -/
theorem open_rowsV {t e : TypeId} {k : Nat} {b0 : Nat} {r : Reach} {v : Value} {d : DataW H} {p : List MemPlace} {ok : List Value → Prop} (ht : P.underlying t = some (.slice e)) (hC : P.cellsOf e = k) (hk : 0 < k) (hby : 0 < P.bytesOf e)
    (hdec : ∀ n cs y, DataW.trod enc P w 0 (fun _ => true) true n e cs = some y → cs.length = k → ok cs)
    (hv : Value.okWide P w r b0 t v) (h : DataW.Trod enc P w 0 (fun _ => true) true t v d p) (hlt : ∀ x ∈ p, x.block < w.heap.size)
    (hsz : ∀ elems spare, d = .slice elems spare → (elems.length + spare.length) * P.bytesOf e ≤ reachBytes) :
    ∃ (A : Option Addr) (n c : Nat) (xs : List (List Value)), v = .slice A n c ∧ xs.length = n ∧ (∀ x ∈ xs, x.length = k ∧ ok x) ∧ Sl w w.heap.size k A xs ∧ n ≤ 140737488351232 := by
  obtain ⟨A, len, cap, rfl⟩ := okWide_slice ht hv
  obtain ⟨fuel, hf⟩ := h
  rcases Go.Deep.open_slice ht hf with ⟨hcs, _⟩ | ⟨a, len', cap', m, n, D, Pl, hcs, hb, hl, hm, hmm, hx, hi⟩
  · simp [Value.cells] at hcs
    obtain ⟨rfl, rfl, rfl⟩ := hcs
    exact ⟨none, 0, 0, [], rfl, rfl, by simp, Sl.nil_, by omega⟩
  · simp [Value.cells] at hcs
    obtain ⟨rfl, rfl, rfl⟩ := hcs
    simp only [if_true] at hmm
    subst hmm
    rw [hC] at hx hi
    have hpl : p = MemPlace.row a (m * k) ++ (List.range m).flatMap Pl := (Prod.mk.inj hx).2
    have hd : d = _ := (Prod.mk.inj hx).1
    have hn : len ≤ 140737488351232 := by
      have h1 := hsz _ _ hd
      simp only [List.length_map, List.length_range] at h1
      have h2 : (len + (m - len)) * 1 ≤ (len + (m - len)) * P.bytesOf e := Nat.mul_le_mul_left _ hby
      unfold reachBytes at h1
      omega
    have hex : ∀ i, ∃ cs' : List Value, i < m → (cs'.length = k ∧ ok cs' ∧ ∀ j u, cs'[j]? = some u → w.cell? (a.add (i * k + j)) = some u) := by
      intro i
      by_cases hi' : i < m
      · obtain ⟨cs', hcs', ht'⟩ := hi i hi'
        obtain ⟨_, hlen, hat⟩ := World.cells?_some hcs'
        refine ⟨cs', fun _ => ⟨hlen, hdec _ _ _ ht' hlen, fun j u hu => ?_⟩⟩
        have hj : j < k := by have := (List.getElem?_eq_some_iff.1 hu).1; omega
        rw [← Go.Deep.add_add, hat j hj, hu]
      · exact ⟨[], fun h => absurd h hi'⟩
    have hex' : ∃ f : Nat → List Value, ∀ i, i < m → ((f i).length = k ∧ ok (f i) ∧ ∀ j u, (f i)[j]? = some u → w.cell? (a.add (i * k + j)) = some u) := ⟨fun i => Classical.choose (hex i), fun i => Classical.choose_spec (hex i)⟩
    obtain ⟨f, hf'⟩ := hex'
    refine ⟨some a, len, m, (List.range len).map f, rfl, by simp, ?_, ?_, hn⟩
    · intro x hx'
      obtain ⟨i, hi', rfl⟩ := List.mem_map.1 hx'
      have := hf' i (by have := List.mem_range.1 hi'; omega)
      exact ⟨this.1, this.2.1⟩
    · intro i x hx'
      rw [List.getElem?_map] at hx'
      by_cases hil : i < len
      · rw [List.getElem?_range hil] at hx'
        simp only [Option.map_some, Option.some.injEq] at hx'
        subst hx'
        obtain ⟨h1, h2, h3⟩ := hf' i (by omega)
        have hf0 := hf' 0 (by omega)
        have hc0 := hf0.2.2 0 ((f 0)[0]'(by omega)) (List.getElem?_eq_getElem (by omega))
        obtain ⟨b, off, spot⟩ := a
        have hspot : spot = none := by
          have := World.cell?_spot hc0
          simpa [Addr.add] using this
        subst hspot
        have hbW : b < w.heap.size := hlt (.cell b off) (by
          rw [hpl]
          exact List.mem_append_left _ (MemPlace.mem_row.2 ⟨0, Nat.mul_pos (by omega) hk, by simp⟩))
        refine ⟨h1, b, off, rfl, hbW, fun j u hu => ?_⟩
        have := h3 j u hu
        rw [add_plain, ← Nat.add_assoc] at this
        exact this
      · rw [List.getElem?_eq_none (by simpa using hil)] at hx'
        cases hx'
theorem sized_at {ts : List TypeId} {ds : List (DataW H)} (h : (DataW.weightsEach P ts ds).all (· ≤ reachBytes) = true) {j : Nat} {t e : TypeId} {d : DataW H} (ht : ts[j]? = some t) (hd : ds[j]? = some d) (hu : P.underlying t = some (.slice e)) :
    ∀ elems spare, d = .slice elems spare → (elems.length + spare.length) * P.bytesOf e ≤ reachBytes := fun elems spare he => sized_slice h ht (hd.trans (by rw [he])) hu
end
/-- the same, the elements structs of int64 fields -/
theorem open_rows {H : Type} {enc : TypeId × Value → H} {P : Program} {w : World} {t e tI : TypeId} {fs : Array Field} {b0 : Nat} {r : Reach} {v : Value} {d : DataW H} {p : List MemPlace} (ht : P.underlying t = some (.slice e)) (he : P.underlying e = some (.struct fs)) (hI : P.underlying tI = some (.int .i64))
    (hone : oneCellFields P fs = true) (hall : fs.all (fun f => f.type == tI) = true) (hC : P.cellsOf e = fs.size) (hk : 0 < fs.size) (hby : 0 < P.bytesOf e)
    (hv : Value.okWide P w r b0 t v) (h : DataW.Trod enc P w 0 (fun _ => true) true t v d p) (hlt : ∀ x ∈ p, x.block < w.heap.size)
    (hsz : ∀ elems spare, d = .slice elems spare → (elems.length + spare.length) * P.bytesOf e ≤ reachBytes) :
    ∃ (A : Option Addr) (c : Nat) (rows : List (List Int)), v = .slice A rows.length c ∧ (∀ x ∈ rows, x.length = fs.size ∧ ∀ m ∈ x, (Lit.int .i64 m).wf = true) ∧ Sl w w.heap.size fs.size A (rows.map (·.map (Value.int .i64))) ∧ rows.length ≤ 140737488351232 := by
  obtain ⟨A, n, c, xs, rfl, hn, hx, hs, hl⟩ := open_rowsV (ok := fun cs => ∃ ns : List Int, ns.length = fs.size ∧ cs = ns.map (Value.int .i64) ∧ ∀ m ∈ ns, (Lit.int .i64 m).wf = true) ht hC hk hby (fun n cs y hy _ => struct_ints he hI hone hall hC hy) hv h hlt hsz
  have hxs : xs = (xs.map (·.map intOf)).map (·.map (Value.int .i64)) := by
    rw [List.map_map]
    conv => lhs; rw [← List.map_id xs]
    apply List.map_congr_left
    intro x hxm
    obtain ⟨_, ns, _, rfl, _⟩ := hx x hxm
    simp [Function.comp_def, intOf]
  refine ⟨A, c, xs.map (·.map intOf), by simp [hn], ?_, ?_, by simpa [hn] using hl⟩
  · intro y hy
    obtain ⟨x, hxm, rfl⟩ := List.mem_map.1 hy
    obtain ⟨_, ns, h1, rfl, h2⟩ := hx x hxm
    simpa [Function.comp_def, intOf] using ⟨h1, h2⟩
  · rw [← hxs]
    exact hs

/-- An argument that is a struct of int64 fields, by value. -/
theorem open_agg_ints {H : Type} {enc : TypeId × Value → H} {P : Program} {w : World} {t tI : TypeId} {fs : Array Field} {b0 base : Nat} {spare : Nat → Bool} {held : Bool} {r : Reach} {v : Value} {d : DataW H} {p : List MemPlace} (ht : P.underlying t = some (.struct fs)) (hI : P.underlying tI = some (.int .i64))
    (hone : oneCellFields P fs = true) (hall : fs.all (fun f => f.type == tI) = true) (hC : P.cellsOf t = fs.size)
    (hv : Value.okWide P w r b0 t v) (h : DataW.Trod enc P w base spare held t v d p) :
    ∃ ns : List Int, ns.length = fs.size ∧ v = .agg (ns.map (Value.int .i64)).toArray ∧ ∀ m ∈ ns, (Lit.int .i64 m).wf = true := by
  obtain ⟨cs, rfl, _⟩ := okWide_struct ht hv
  obtain ⟨fuel, hf⟩ := h
  obtain ⟨ns, h1, h2, h3⟩ := struct_ints ht hI hone hall hC hf
  refine ⟨ns, h1, ?_, h3⟩
  rw [← h2]
  simp [Value.cells]

set_option maxRecDepth 100000 in
/-- The row's step, out of a walk. -/
theorem lifted_of {os : Os} (started : os.Started) {H : Type} {enc : TypeId × Value → H} {K : FuncId} {fn : Func} {s : ChangeSpec}
    (noInit : Tryz.checked.prog.inits.idxOf? K = none) (hfn : Tryz.checked.prog.funcs[K]? = some fn)
    (witness : ∃ (w : World) (tape : Tape) (i : Input), w.os = os ∧ (w.forCall tape i).Shaped Tryz.checked.prog ∧ i.vars = [] ∧ Input.okWide Tryz.checked.prog (w.forCall tape i) .any w.heap.size K i ∧
      s.pre6 enc Tryz.checked.prog fn [] false (w.forCall tape i).memory i.args ∧ ({} : Assume).holds Tryz.checked.prog (lone (Frame.enter Tryz.checked.prog K i.args .normal) [] (w.forCall tape i)))
    (hv : s.vars = []) (hrt : fn.resultTypes = #[4])
    (hs : ∀ ds : List (DataW H), ds.length = fn.params.toList.length → s.fn H (ds ++ []) = { results := [.lit (.bool true)], args := ds })
    (hpr : fn.params.toList.all (fun t => Tryz.prog.readableRec t && decide (t < Tryz.prog.types.size)) = true)
    (walk : ∀ (W : World) (base : Nat) (args : Array Value) (ds : List (DataW H)) (ps : List MemPlace),
      (∀ (j : Nat) t v, fn.params[j]? = some t → args[j]? = some v → Value.okWide Tryz.prog W .any base t v) →
      DataW.TrodAll enc Tryz.prog W 0 (fun _ => true) true fn.params.toList args.toList ds ps → (∀ x ∈ ps, x.block < W.heap.size) →
      (DataW.weightsEach Tryz.prog fn.params.toList ds).all (· ≤ reachBytes) = true →
      Calls Tryz.prog K args W fun e W' => e = .returned (.bool true) ∧ Below W.heap.size W W') :
    ReturnsInHanded {} Tryz.checked os K .any (s.pre6 enc Tryz.prog fn [] false) (s.post enc Tryz.prog fn false true false false) := by
  refine returnsInHanded_of_change_sized (C := Tryz.checked) own started noInit hfn witness ?_
  intro W base args ds gs before hval hW _ hsz _
  have hW' := hW
  obtain ⟨p, q, hA, hV, rfl, hfz, hnd⟩ := hW
  rw [hv] at hV
  obtain ⟨rfl, rfl⟩ := trodVars_none hV
  have hlt : ∀ x ∈ p, x.block < W.heap.size := fun x hx => by simpa using hW'.lt x (List.mem_append_left _ hx)
  have hty : s.plain.varTypes Tryz.checked.prog = [] := by
    unfold DataSpec.varTypes ChangeSpec.plain
    rw [hv]
    rfl
  rw [hty] at hsz
  simp only [List.append_nil] at hsz
  refine (walk W base args ds p hval hA hlt hsz).mono fun e W' ⟨he, hb⟩ => ?_
  subst he
  have hlen := trodAll_length _ _ _ _ hA
  refine ⟨_, rfl, ds, [], p ++ [], [], p ++ [], [], hW', ?_, ?_, ?_, hb.frame _, fun h => by cases h⟩
  · rw [hs ds hlen, hrt]
    exact trodAll_mk1 (shut_bool Tryz.underlying4 _)
  · rw [hs ds hlen]
    have h := trodAll_below laidOut hb _ _ _ _ hpr hlt hA
    rw [List.append_nil]
    exact h
  · rw [hs ds hlen, hv]
    rfl
end Go.Proofs.YtgkobjpoeajkdaaGreat
namespace Go.Proofs.YtgkobjpoeajkdaaGreat
open Go.ChangeShapes Go.WideShapes Go.ChangeAt Go.RowKit Go.Deep
section
variable {H : Type} (enc : TypeId × Value → H) (P : Program) (w : World)
/-- what the cells of a value of type t are -/
def Dec (t : TypeId) (ok : List Value → Prop) : Prop := ∀ (n : Nat) (cs : List Value) (y : DataW H × List MemPlace), DataW.trod enc P w 0 (fun _ => true) true n t cs = some y →
  (∀ x ∈ y.2, x.block < w.heap.size) → (∀ m ∈ y.1.weights P t, m ≤ reachBytes) → ok cs
end
section
variable {H : Type} {enc : TypeId × Value → H} {P : Program} {w : World}
theorem Dec.imp {t : TypeId} {ok ok' : List Value → Prop} (h : Dec enc P w t ok) (hi : ∀ cs, ok cs → ok' cs) : Dec enc P w t ok' := fun n cs y h1 h2 h3 => hi cs (h n cs y h1 h2 h3)
def IntOk (cs : List Value) : Prop := ∃ n : Int, cs = [.int .i64 n] ∧ (-9223372036854775808 ≤ n ∧ n ≤ 9223372036854775807)
def BoolOk (cs : List Value) : Prop := ∃ b : Bool, cs = [.bool b]
theorem dec_int {t : TypeId} (ht : P.underlying t = some (.int .i64)) : Dec enc P w t IntOk := fun n cs y h _ _ => by
  obtain ⟨m, h1, _, h2⟩ := DataW.trod_int ht h
  exact ⟨m, h1, bounds_i64 h2⟩
theorem dec_bool {t : TypeId} (ht : P.underlying t = some .bool) : Dec enc P w t BoolOk := fun n cs y h _ _ => by
  obtain ⟨b, h1, _⟩ := DataW.trod_bool ht h
  exact ⟨b, h1⟩
/-- a slice of rows of k cells -/
def SliceOk (w : World) (k : Nat) (ok : List Value → Prop) (cs : List Value) : Prop := ∃ (A : Option Addr) (c : Nat) (xs : List (List Value)), cs = [.slice A xs.length c] ∧ xs.length ≤ c ∧ xs.length ≤ 140737488351232 ∧ (∀ x ∈ xs, x.length = k ∧ ok x) ∧ Sl w w.heap.size k A xs
theorem weightsAll_mem {e : TypeId} {m : Nat} : ∀ {l : List (DataW H)} {d : DataW H}, d ∈ l → m ∈ d.weights P e → m ∈ DataW.weightsAll P e l
  | d0 :: l, d, hd, hm => by
    unfold DataW.weightsAll
    rcases List.mem_cons.1 hd with rfl | h
    · exact List.mem_append_left _ hm
    · exact List.mem_append_right _ (weightsAll_mem h hm)
theorem dec_slice {t e : TypeId} {k : Nat} {ok : List Value → Prop} (ht : P.underlying t = some (.slice e)) (hC : P.cellsOf e = k) (hk : 0 < k) (hby : 0 < P.bytesOf e) (hd : Dec enc P w e ok) : Dec enc P w t (SliceOk w k ok) := by
  intro fuel cs y hf hlt hwt
  rcases Go.Deep.open_slice ht hf with ⟨hcs, _⟩ | ⟨a, len, cap, m, n, D, Pl, hcs, hb, hl, hm, hmm, hx, hi⟩
  · exact ⟨none, 0, [], by simpa using hcs, Nat.zero_le _, Nat.zero_le _, by simp, Sl.nil_⟩
  · simp only [if_true] at hmm
    subst hmm
    rw [hC] at hx hi
    subst hx
    simp only at hlt hwt
    have hn : len ≤ 140737488351232 := by
      have h1 := hwt ((((List.range len).map D).length + ((List.range (m - len)).map fun j => D (len + j)).length) * P.bytesOf e) (by simp [DataW.weights, ht])
      simp only [List.length_map, List.length_range] at h1
      have h2 : (len + (m - len)) * 1 ≤ (len + (m - len)) * P.bytesOf e := Nat.mul_le_mul_left _ hby
      unfold reachBytes at h1
      omega
    have hex : ∀ i, ∃ cs' : List Value, i < m → (cs'.length = k ∧ (i < len → ok cs') ∧ ∀ j u, cs'[j]? = some u → w.cell? (a.add (i * k + j)) = some u) := by
      intro i
      by_cases hi' : i < m
      · obtain ⟨cs', hcs', ht'⟩ := hi i hi'
        obtain ⟨_, hlen, hat⟩ := World.cells?_some hcs'
        refine ⟨cs', fun _ => ⟨hlen, fun hil => hd n cs' (D i, Pl i) ht' (fun x hx => hlt x (List.mem_append_right _ (List.mem_flatMap.2 ⟨i, List.mem_range.2 hi', hx⟩))) (fun q hq => hwt q ?_), fun j u hu => ?_⟩⟩
        · simp only [DataW.weights, ht, List.mem_cons, List.mem_append]
          exact .inr (.inl (weightsAll_mem (List.mem_map.2 ⟨i, List.mem_range.2 hil, rfl⟩) hq))
        · have hj : j < k := by have := (List.getElem?_eq_some_iff.1 hu).1; omega
          rw [← Go.Deep.add_add, hat j hj, hu]
      · exact ⟨[], fun h => absurd h hi'⟩
    have hex' : ∃ f : Nat → List Value, ∀ i, i < m → ((f i).length = k ∧ (i < len → ok (f i)) ∧ ∀ j u, (f i)[j]? = some u → w.cell? (a.add (i * k + j)) = some u) := ⟨fun i => Classical.choose (hex i), fun i => Classical.choose_spec (hex i)⟩
    obtain ⟨f, hf'⟩ := hex'
    refine ⟨some a, m, (List.range len).map f, by simpa using hcs, by simpa using hl, by simpa using hn, ?_, ?_⟩
    · intro x hx'
      obtain ⟨i, hi', rfl⟩ := List.mem_map.1 hx'
      have hil := List.mem_range.1 hi'
      have := hf' i (by omega)
      exact ⟨this.1, this.2.1 hil⟩
    · intro i x hx'
      rw [List.getElem?_map] at hx'
      by_cases hil : i < len
      · rw [List.getElem?_range hil] at hx'
        simp only [Option.map_some, Option.some.injEq] at hx'
        subst hx'
        obtain ⟨h1, h2, h3⟩ := hf' i (by omega)
        have hf0 := hf' 0 (by omega)
        have hc0 := hf0.2.2 0 ((f 0)[0]'(by omega)) (List.getElem?_eq_getElem (by omega))
        obtain ⟨b, off, spot⟩ := a
        have hspot : spot = none := by
          have := World.cell?_spot hc0
          simpa [Addr.add] using this
        subst hspot
        have hbW : b < w.heap.size := hlt (.cell b off) (List.mem_append_left _ (MemPlace.mem_row.2 ⟨0, Nat.mul_pos (by omega) hk, by simp⟩))
        refine ⟨h1, b, off, rfl, hbW, fun j u hu => ?_⟩
        have := h3 j u hu
        rw [add_plain, ← Nat.add_assoc] at this
        exact this
      · rw [List.getElem?_eq_none (by simpa using hil)] at hx'
        cases hx'
theorem weightsEach_get {m : Nat} : ∀ {ts : List TypeId} {ds : List (DataW H)} {j : Nat} {t : TypeId} {d : DataW H}, ts[j]? = some t → ds[j]? = some d → m ∈ d.weights P t → m ∈ DataW.weightsEach P ts ds := fun ht hd hm => DataW.weights_mem_each ht hd _ hm
theorem dec_struct {t : TypeId} {fs : Array Field} (ht : P.underlying t = some (.struct fs)) (oks : Nat → List Value → Prop) (hd : ∀ i f, fs[i]? = some f → Dec enc P w f.type (oks i)) :
    Dec enc P w t (fun cs => cs.length = P.cellsOf t ∧ ∀ i f, fs[i]? = some f → oks i ((cs.drop f.offset).take (P.cellsOf f.type))) := by
  intro fuel cs y h hlt hwt
  obtain ⟨xs, n', _, rfl, hl, hxl, hf⟩ := DataW.trod_struct ht h
  refine ⟨hl, fun i f hi => ?_⟩
  have hlt' : i < fs.size := (Array.getElem?_eq_some_iff.1 hi).1
  have hx : xs[i]? = some xs[i] := List.getElem?_eq_getElem (by omega)
  have h1 := hf i f hi
  rw [hx] at h1
  refine hd i f hi n' _ _ h1 (fun x hxm => hlt x (List.mem_flatMap.2 ⟨xs[i], List.getElem_mem _, hxm⟩)) (fun m hm => hwt m ?_)
  simp only [DataW.weights, ht]
  refine weightsEach_get (j := i) (t := f.type) (d := xs[i].1) ?_ ?_ hm
  · rw [List.getElem?_map, Array.getElem?_toList, hi]; rfl
  · rw [List.getElem?_map, hx]; rfl
/-- an argument that is a struct, by value -/
theorem dec_arg {t : TypeId} {fs : Array Field} {r : Reach} {b0 : Nat} {v : Value} {d : DataW H} {p : List MemPlace} {ok : List Value → Prop} (ht : P.underlying t = some (.struct fs)) (hd : Dec enc P w t ok) (hv : Value.okWide P w r b0 t v) (h : DataW.Trod enc P w 0 (fun _ => true) true t v d p)
    (hlt : ∀ x ∈ p, x.block < w.heap.size) (hw : ∀ m ∈ d.weights P t, m ≤ reachBytes) : ∃ cs : List Value, v = .agg cs.toArray ∧ ok cs := by
  obtain ⟨cs, rfl, _⟩ := okWide_struct ht hv
  obtain ⟨fuel, hf⟩ := h
  refine ⟨cs.toList, by simp, ?_⟩
  have := hd fuel _ _ hf hlt hw
  simpa [Value.cells] using this
/-- an argument that is a slice -/
theorem dec_argS {t e : TypeId} {r : Reach} {b0 : Nat} {v : Value} {d : DataW H} {p : List MemPlace} {ok : List Value → Prop} (ht : P.underlying t = some (.slice e)) (hd : Dec enc P w t ok) (hv : Value.okWide P w r b0 t v) (h : DataW.Trod enc P w 0 (fun _ => true) true t v d p)
    (hlt : ∀ x ∈ p, x.block < w.heap.size) (hw : ∀ m ∈ d.weights P t, m ≤ reachBytes) : ∃ A n c, v = .slice A n c ∧ ok [.slice A n c] := by
  obtain ⟨A, n, c, rfl⟩ := okWide_slice ht hv
  obtain ⟨fuel, hf⟩ := h
  exact ⟨A, n, c, rfl, by simpa [Value.cells] using hd fuel _ _ hf hlt hw⟩
theorem sized_arg {ts : List TypeId} {ds : List (DataW H)} (h : (DataW.weightsEach P ts ds).all (· ≤ reachBytes) = true) {j : Nat} {t : TypeId} {d : DataW H} (ht : ts[j]? = some t) (hd : ds[j]? = some d) : ∀ m ∈ d.weights P t, m ≤ reachBytes := fun m hm => by
  have := List.all_eq_true.1 h _ (DataW.weights_mem_each ht hd m hm)
  simpa using this
end
/-- rows of one int64 each -/
theorem ints_of_rows : ∀ rows : List (List Value), (∀ x ∈ rows, x.length = 1 ∧ IntOk x) → ∃ l : List Int, rows = l.map fun n => [Value.int .i64 n]
  | [], _ => ⟨[], rfl⟩
  | x :: r, h => by
    obtain ⟨l, hl⟩ := ints_of_rows r fun y hy => h y (by simp [hy])
    obtain ⟨n, hn, _⟩ := (h x (by simp)).2
    exact ⟨n :: l, by rw [List.map_cons, hl, hn]⟩
end Go.Proofs.YtgkobjpoeajkdaaGreat
namespace Go.Proofs.YtgkobjpoeajkdaaGreat
open Go.ChangeShapes Go.WideShapes Go.ChangeAt Go.RowKit Go.Deep
section
variable {H : Type} {enc : TypeId × Value → H} {P : Program} {w : World}
theorem dec_struct2 {t : TypeId} {f0 f1 : Field} (ht : P.underlying t = some (.struct #[f0, f1])) {k0 k1 : List Value → Prop} (h0 : Dec enc P w f0.type k0) (h1 : Dec enc P w f1.type k1) :
    Dec enc P w t (fun cs => cs.length = P.cellsOf t ∧ k0 ((cs.drop f0.offset).take (P.cellsOf f0.type)) ∧ k1 ((cs.drop f1.offset).take (P.cellsOf f1.type))) :=
  (dec_struct ht (fun i => if i = 0 then k0 else k1) (fun i f hi => by
    match i, hi with
    | 0, hi => obtain rfl : f0 = f := by simpa using hi
               exact h0
    | 1, hi => obtain rfl : f1 = f := by simpa using hi
               exact h1
    | (n + 2), hi => simp at hi)).imp fun cs ⟨hl, hf⟩ => ⟨hl, hf 0 f0 rfl, hf 1 f1 rfl⟩
theorem dec_struct3 {t : TypeId} {f0 f1 f2 : Field} (ht : P.underlying t = some (.struct #[f0, f1, f2])) {k0 k1 k2 : List Value → Prop} (h0 : Dec enc P w f0.type k0) (h1 : Dec enc P w f1.type k1) (h2 : Dec enc P w f2.type k2) :
    Dec enc P w t (fun cs => cs.length = P.cellsOf t ∧ k0 ((cs.drop f0.offset).take (P.cellsOf f0.type)) ∧ k1 ((cs.drop f1.offset).take (P.cellsOf f1.type)) ∧ k2 ((cs.drop f2.offset).take (P.cellsOf f2.type))) :=
  (dec_struct ht (fun i => if i = 0 then k0 else if i = 1 then k1 else k2) (fun i f hi => by
    match i, hi with
    | 0, hi => obtain rfl : f0 = f := by simpa using hi
               exact h0
    | 1, hi => obtain rfl : f1 = f := by simpa using hi
               exact h1
    | 2, hi => obtain rfl : f2 = f := by simpa using hi
               exact h2
    | (n + 3), hi => simp at hi)).imp fun cs ⟨hl, hf⟩ => ⟨hl, hf 0 f0 rfl, hf 1 f1 rfl, hf 2 f2 rfl⟩
end
section
variable {H : Type} {enc : TypeId × Value → H} {w : World}
theorem cells_int : Tryz.prog.cellsOf 2 = 1 := by kernel_rfl
def FigOk (cs : List Value) : Prop := ∃ a b : Int, cs = [.int .i64 a, .int .i64 b] ∧ (-9223372036854775808 ≤ a ∧ a ≤ 9223372036854775807) ∧ (-9223372036854775808 ≤ b ∧ b ≤ 9223372036854775807)
theorem dec_fig : Dec enc Tryz.prog w 59 FigOk :=
  (dec_struct2 Tryz.underlying59 (dec_int Tryz.underlying2) (dec_int Tryz.underlying2)).imp fun cs ⟨hl, h0, h1⟩ => by
    simp only [cells_int] at h0 h1
    rw [show Tryz.prog.cellsOf 59 = 2 from by kernel_rfl] at hl
    match cs, hl with
    | [x, y], _ =>
      obtain ⟨a, ha, ha'⟩ := h0
      obtain ⟨b, hb, hb'⟩ := h1
      simp at ha hb
      exact ⟨a, b, by rw [ha, hb], ha', hb'⟩
def TermOk (cs : List Value) : Prop := ∃ (a b : Int) (d : Bool), cs = [.int .i64 a, .int .i64 b, .bool d]
theorem dec_term : Dec enc Tryz.prog w 151 TermOk :=
  (dec_struct2 Tryz.underlying151 dec_fig (dec_bool Tryz.underlying4)).imp fun cs ⟨hl, h0, h1⟩ => by
    simp only [show Tryz.prog.cellsOf 59 = 2 from by kernel_rfl, show Tryz.prog.cellsOf 4 = 1 from by kernel_rfl] at h0 h1
    rw [show Tryz.prog.cellsOf 151 = 3 from by kernel_rfl] at hl
    match cs, hl with
    | [x, y, z], _ =>
      obtain ⟨a, b, hab, _⟩ := h0
      obtain ⟨d, hd⟩ := h1
      simp at hab hd
      exact ⟨a, b, d, by rw [hab.1, hab.2, hd]⟩
theorem terms_of_rows : ∀ rows : List (List Value), (∀ x ∈ rows, x.length = 3 ∧ TermOk x) → ∃ l : List Term, rows = l.map Term.cells
  | [], _ => ⟨[], rfl⟩
  | x :: r, h => by
    obtain ⟨l, hl⟩ := terms_of_rows r fun y hy => h y (by simp [hy])
    obtain ⟨a, b, d, hn⟩ := (h x (by simp)).2
    exact ⟨⟨a, b, d⟩ :: l, by rw [List.map_cons, hl, hn]; rfl⟩
def MoveOk (cs : List Value) : Prop := ∃ (k s a b : Int), cs = [.int .i64 k, .int .i64 s, .int .i64 a, .int .i64 b]
theorem dec_move : Dec enc Tryz.prog w 171 MoveOk :=
  (dec_struct3 Tryz.underlying171 (dec_int Tryz.underlying2) (dec_int Tryz.underlying2) dec_fig).imp fun cs ⟨hl, h0, h1, h2⟩ => by
    simp only [show Tryz.prog.cellsOf 59 = 2 from by kernel_rfl, cells_int] at h0 h1 h2
    rw [show Tryz.prog.cellsOf 171 = 4 from by kernel_rfl] at hl
    match cs, hl with
    | [x, y, z, u], _ =>
      obtain ⟨k, hk, _⟩ := h0
      obtain ⟨s, hs, _⟩ := h1
      obtain ⟨a, b, hab, _⟩ := h2
      simp at hab hk hs
      exact ⟨k, s, a, b, by rw [hk, hs, hab.1, hab.2]⟩
theorem moves_of_rows : ∀ rows : List (List Value), (∀ x ∈ rows, x.length = 4 ∧ MoveOk x) → ∃ l : List Move, rows = l.map Move.cells
  | [], _ => ⟨[], rfl⟩
  | x :: r, h => by
    obtain ⟨l, hl⟩ := moves_of_rows r fun y hy => h y (by simp [hy])
    obtain ⟨k, s, a, b, hn⟩ := (h x (by simp)).2
    exact ⟨⟨k, s, a, b⟩ :: l, by rw [List.map_cons, hl, hn]; rfl⟩
/-- a slice of int64 as a list -/
def IntsOk (w : World) (cs : List Value) : Prop := ∃ (A : Option Addr) (c : Nat) (l : List Int), cs = [.slice A l.length c] ∧ l.length ≤ c ∧ l.length ≤ 140737488351232 ∧ Sl w w.heap.size 1 A (l.map ic)
theorem dec_ints : Dec enc Tryz.prog w 22 (IntsOk w) :=
  (dec_slice (k := 1) Tryz.underlying22 (by kernel_rfl) (by omega) (of_decide_eq_true (by kernel_rfl)) (dec_int Tryz.underlying2)).imp fun cs ⟨A, c, xs, h1, h2, h3, h4, h5⟩ => by
    obtain ⟨l, rfl⟩ := ints_of_rows xs h4
    rw [List.length_map] at h1 h2 h3
    exact ⟨A, c, l, h1, h2, h3, h5⟩
def RuleOk (w : World) (cs : List Value) : Prop := ∃ (L : Int) (A1 : Option Addr) (c1 : Nat) (l1 : List Int) (A2 : Option Addr) (c2 : Nat) (l2 : List Int), cs = [.int .i64 L, .slice A1 l1.length c1, .slice A2 l2.length c2] ∧
  (l1.length ≤ c1 ∧ l1.length ≤ 140737488351232 ∧ Sl w w.heap.size 1 A1 (l1.map ic)) ∧ (l2.length ≤ c2 ∧ l2.length ≤ 140737488351232 ∧ Sl w w.heap.size 1 A2 (l2.map ic))
theorem dec_rule : Dec enc Tryz.prog w 24 (RuleOk w) :=
  (dec_struct3 Tryz.underlying24 (dec_int Tryz.underlying2) dec_ints dec_ints).imp fun cs ⟨hl, h0, h1, h2⟩ => by
    simp only [show Tryz.prog.cellsOf 22 = 1 from by kernel_rfl, cells_int] at h0 h1 h2
    rw [show Tryz.prog.cellsOf 24 = 3 from by kernel_rfl] at hl
    match cs, hl with
    | [x, y, z], _ =>
      obtain ⟨L, hL, _⟩ := h0
      obtain ⟨A1, c1, l1, e1, r1⟩ := h1
      obtain ⟨A2, c2, l2, e2, r2⟩ := h2
      simp at hL e1 e2
      exact ⟨L, A1, c1, l1, A2, c2, l2, by rw [hL, e1, e2], r1, r2⟩
def ErrOk (cs : List Value) : Prop := ∃ (p q r : Int), cs = [.int .i64 p, .int .i64 q, .int .i64 r]
theorem dec_err : Dec enc Tryz.prog w 27 ErrOk :=
  (dec_struct3 Tryz.underlying27 (dec_int Tryz.underlying2) (dec_int Tryz.underlying2) (dec_int Tryz.underlying2)).imp fun cs ⟨hl, h0, h1, h2⟩ => by
    simp only [cells_int] at h0 h1 h2
    rw [show Tryz.prog.cellsOf 27 = 3 from by kernel_rfl] at hl
    match cs, hl with
    | [x, y, z], _ =>
      obtain ⟨p, hp, _⟩ := h0
      obtain ⟨q, hq, _⟩ := h1
      obtain ⟨r, hr, _⟩ := h2
      simp at hp hq hr
      exact ⟨p, q, r, by rw [hp, hq, hr]⟩
def TermsOk (w : World) (cs : List Value) : Prop := ∃ (A : Option Addr) (c : Nat) (l : List Term), cs = [.slice A l.length c] ∧ l.length ≤ c ∧ l.length ≤ 140737488351232 ∧ Sl w w.heap.size 3 A (l.map Term.cells)
theorem dec_terms : Dec enc Tryz.prog w 25 (TermsOk w) :=
  (dec_slice (k := 3) Tryz.underlying25 (by kernel_rfl) (by omega) (of_decide_eq_true (by kernel_rfl)) dec_term).imp fun cs ⟨A, c, xs, h1, h2, h3, h4, h5⟩ => by
    obtain ⟨l, rfl⟩ := terms_of_rows xs h4
    rw [List.length_map] at h1 h2 h3
    exact ⟨A, c, l, h1, h2, h3, h5⟩
def MovesOk (w : World) (cs : List Value) : Prop := ∃ (A : Option Addr) (c : Nat) (l : List Move), cs = [.slice A l.length c] ∧ l.length ≤ c ∧ l.length ≤ 140737488351232 ∧ Sl w w.heap.size 4 A (l.map Move.cells)
theorem dec_moves : Dec enc Tryz.prog w 57 (MovesOk w) :=
  (dec_slice (k := 4) Tryz.underlying57 (by kernel_rfl) (by omega) (of_decide_eq_true (by kernel_rfl)) dec_move).imp fun cs ⟨A, c, xs, h1, h2, h3, h4, h5⟩ => by
    obtain ⟨l, rfl⟩ := moves_of_rows xs h4
    rw [List.length_map] at h1 h2 h3
    exact ⟨A, c, l, h1, h2, h3, h5⟩
/-- an exercise's lists, as they lie in w, their lengths open -/
structure ExLaid (w : World) (A1 : Option Addr) (c1 : Nat) (l1 : List Int) (A2 : Option Addr) (c2 : Nat) (l2 : List Int) (A3 : Option Addr) (c3 : Nat) (l3 : List Term) : Prop where
  z1 : l1.length ≤ 140737488351232
  z2 : l2.length ≤ 140737488351232
  z3 : l3.length ≤ 140737488351232
  k1 : l1.length ≤ c1
  k2 : l2.length ≤ c2
  k3 : l3.length ≤ c3
  s1 : Sl w w.heap.size 1 A1 (l1.map ic)
  s2 : Sl w w.heap.size 1 A2 (l2.map ic)
  s3 : Sl w w.heap.size 3 A3 (l3.map Term.cells)
def ExOk (w : World) (cs : List Value) : Prop := ∃ (L : Int) (A1 : Option Addr) (c1 : Nat) (l1 : List Int) (A2 : Option Addr) (c2 : Nat) (l2 : List Int) (A3 : Option Addr) (c3 : Nat) (l3 : List Term) (p q r : Int),
  cs = [.int .i64 L, .slice A1 l1.length c1, .slice A2 l2.length c2, .slice A3 l3.length c3, .int .i64 p, .int .i64 q, .int .i64 r] ∧ ExLaid w A1 c1 l1 A2 c2 l2 A3 c3 l3
theorem dec_ex : Dec enc Tryz.prog w 29 (ExOk w) :=
  (dec_struct3 Tryz.underlying29 dec_rule dec_terms dec_err).imp fun cs ⟨hl, h0, h1, h2⟩ => by
    simp only [show Tryz.prog.cellsOf 24 = 3 from by kernel_rfl, show Tryz.prog.cellsOf 25 = 1 from by kernel_rfl, show Tryz.prog.cellsOf 27 = 3 from by kernel_rfl] at h0 h1 h2
    rw [show Tryz.prog.cellsOf 29 = 7 from by kernel_rfl] at hl
    match cs, hl with
    | [x0, x1, x2, x3, x4, x5, x6], _ =>
      obtain ⟨L, A1, c1, l1, A2, c2, l2, e1, ⟨r1, r2, r3⟩, ⟨r4, r5, r6⟩⟩ := h0
      obtain ⟨A3, c3, l3, e2, r7, r8, r9⟩ := h1
      obtain ⟨p, q, r, e3⟩ := h2
      simp at e1 e2 e3
      exact ⟨L, A1, c1, l1, A2, c2, l2, A3, c3, l3, p, q, r, by rw [e1.1, e1.2.1, e1.2.2, e2, e3.1, e3.2.1, e3.2.2], ⟨r2, r5, r8, r1, r4, r7, r3, r6, r9⟩⟩
def AnsOk (w : World) (cs : List Value) : Prop := ∃ (A : Option Addr) (c : Nat) (l : List Move) (a b : Int), cs = [.slice A l.length c, .int .i64 a, .int .i64 b] ∧ l.length ≤ c ∧ l.length ≤ 140737488351232 ∧ Sl w w.heap.size 4 A (l.map Move.cells)
theorem dec_ans : Dec enc Tryz.prog w 61 (AnsOk w) :=
  (dec_struct2 Tryz.underlying61 dec_moves dec_fig).imp fun cs ⟨hl, h0, h1⟩ => by
    simp only [show Tryz.prog.cellsOf 57 = 1 from by kernel_rfl, show Tryz.prog.cellsOf 59 = 2 from by kernel_rfl] at h0 h1
    rw [show Tryz.prog.cellsOf 61 = 3 from by kernel_rfl] at hl
    match cs, hl with
    | [x, y, z], _ =>
      obtain ⟨A, c, l, e1, r1⟩ := h0
      obtain ⟨a, b, e2, _⟩ := h1
      simp at e1 e2
      exact ⟨A, c, l, a, b, by rw [e1, e2.1, e2.2], r1⟩
end
set_option maxRecDepth 100000 in
theorem szRule_c (L : Int) (A1 : Option Addr) (n1 c1 : Nat) (A2 : Option Addr) (n2 c2 : Nat) (left : Int) (w : World) (h1 : n1 ≤ 140737488351232) (h2 : n2 ≤ 140737488351232) (hl : 0 ≤ left ∧ left ≤ 1048576) :
    Calls Tryz.prog 23 #[.agg #[.int .i64 L, .slice A1 n1 c1, .slice A2 n2 c2], .int .i64 left] w fun e w' => (∃ v : Int, e = .returned (.int .i64 v) ∧ (v < 0 ∨ (0 ≤ v ∧ v ≤ left ∧ n1 ≤ 1048576 ∧ n2 ≤ 1048576))) ∧ Below w.heap.size w w' := by
  have HS := fun A n c left W h h' => Lib.hid (szInt64S_c A n c left W h h')
  obtain ⟨hl1, hl2⟩ := hl
  by_cases h : left < n1
  · have H := HS A1 n1 c1 left
    rw [if_pos h] at H
    go_enter Tryz.func23, Tryz.ntmps23
    go_wp2_with (go_at_call 70; refine Calls.mono (H _ h1 ⟨hl1, hl2⟩).out ?_; rintro e w1 ⟨rfl, rfl⟩)
    go_ret
    exact ⟨⟨-1, rfl, .inl (by omega)⟩, (by repeat (first | with_reducible exact Below.refl _ _ | with_reducible apply below_drewN' | with_reducible apply Below.drew | (with_reducible refine Below.alloc ?_ (by first | omega | (simp; omega) | simp) _) | (with_reducible refine Below.setCell ?_ (by first | omega | (simp; omega) | simp) _) | exact Below.refl _ _))⟩
  · have H := HS A1 n1 c1 left
    rw [if_neg h] at H
    have hx : 0 ≤ left - n1 ∧ left - n1 ≤ 1048576 := by omega
    have hxn : ¬ left - n1 < 0 := by omega
    by_cases h' : left - n1 < n2
    · have H' := HS A2 n2 c2 (left - n1)
      rw [if_pos h'] at H'
      go_enter Tryz.func23, Tryz.ntmps23
      go_wp2_with (first | (go_at_call 70; with_reducible refine Calls.mono (H _ h1 ⟨hl1, hl2⟩).out ?_; rintro e w1 ⟨rfl, rfl⟩) | (go_at_call 70; with_reducible refine Calls.mono (H' _ h2 hx).out ?_; rintro e w1 ⟨rfl, rfl⟩))
      go_ret
      exact ⟨⟨-1, rfl, .inl (by omega)⟩, (by repeat (first | with_reducible exact Below.refl _ _ | with_reducible apply below_drewN' | with_reducible apply Below.drew | (with_reducible refine Below.alloc ?_ (by first | omega | (simp; omega) | simp) _) | (with_reducible refine Below.setCell ?_ (by first | omega | (simp; omega) | simp) _) | exact Below.refl _ _))⟩
    · have H' := HS A2 n2 c2 (left - n1)
      rw [if_neg h'] at H'
      have hxm : ¬ left - n1 - n2 < 0 := by omega
      go_enter Tryz.func23, Tryz.ntmps23
      go_wp2_with (first | (go_at_call 70; with_reducible refine Calls.mono (H _ h1 ⟨hl1, hl2⟩).out ?_; rintro e w1 ⟨rfl, rfl⟩) | (go_at_call 70; with_reducible refine Calls.mono (H' _ h2 hx).out ?_; rintro e w1 ⟨rfl, rfl⟩))
      go_ret
      exact ⟨⟨left - n1 - n2, rfl, .inr ⟨by omega, by omega, by omega, by omega⟩⟩, (by repeat (first | with_reducible exact Below.refl _ _ | with_reducible apply below_drewN' | with_reducible apply Below.drew | (with_reducible refine Below.alloc ?_ (by first | omega | (simp; omega) | simp) _) | (with_reducible refine Below.setCell ?_ (by first | omega | (simp; omega) | simp) _) | exact Below.refl _ _))⟩
end Go.Proofs.YtgkobjpoeajkdaaGreat
namespace Go.Proofs.YtgkobjpoeajkdaaGreat
open Go.RowKit
/-- what is left of the law's size: below nought, or the lists are short -/
def SzPost (left : Int) (ok : Prop) (w : World) (e : Ending) (w' : World) : Prop := (∃ v : Int, e = .returned (.int .i64 v) ∧ (v < 0 ∨ (0 ≤ v ∧ v ≤ left ∧ ok))) ∧ Below w.heap.size w w'
set_option maxRecDepth 100000 in
theorem szExercise_c (L : Int) (A1 : Option Addr) (n1 c1 : Nat) (A2 : Option Addr) (n2 c2 : Nat) (A3 : Option Addr) (n3 c3 : Nat) (p q r : Int) (left : Int) (w : World) (h1 : n1 ≤ 140737488351232) (h2 : n2 ≤ 140737488351232) (h3 : n3 ≤ 140737488351232) (hl : 0 ≤ left ∧ left ≤ 1048576) :
    Calls Tryz.prog 13 #[.agg #[.int .i64 L, .slice A1 n1 c1, .slice A2 n2 c2, .slice A3 n3 c3, .int .i64 p, .int .i64 q, .int .i64 r], .int .i64 left] w (SzPost left (n1 ≤ 1048576 ∧ n2 ≤ 1048576 ∧ n3 ≤ 1048576) w) := by
  have HR := fun W => Lib.hid (szRule_c L A1 n1 c1 A2 n2 c2 left W h1 h2 hl)
  have HS := fun left W h' => Lib.hid (szTermS_c A3 n3 c3 left W h3 h')
  have hW : Below w.heap.size w (w.alloc (.cells #[.int .i64 L, .slice A1 n1 c1, .slice A2 n2 c2, .slice A3 n3 c3, .int .i64 p, .int .i64 q, .int .i64 r] 29)) := (by repeat (first | with_reducible exact Below.refl _ _ | with_reducible apply below_drewN' | with_reducible apply Below.drew | (with_reducible refine Below.alloc ?_ (by first | omega | (simp; omega) | simp) _) | (with_reducible refine Below.setCell ?_ (by first | omega | (simp; omega) | simp) _) | exact Below.refl _ _))
  have B2 := Blk.new w 29 #[.int .i64 L, .slice A1 n1 c1, .slice A2 n2 c2, .slice A3 n3 c3, .int .i64 p, .int .i64 q, .int .i64 r]
  go_enter Tryz.func13, Tryz.ntmps13
  go_wp2_with fail
  generalize w.alloc (.cells #[.int .i64 L, .slice A1 n1 c1, .slice A2 n2 c2, .slice A3 n3 c3, .int .i64 p, .int .i64 q, .int .i64 r] 29) = W at *
  refine Calls.mono (HR W).out ?_; rintro e w1 ⟨⟨v, rfl, hv⟩, hb1⟩
  have hW1 := hW.trans (hb1.mono hW.size)
  have C2 := B2.below hb1 B2.lt
  have y0 : w1.cell? ⟨w.heap.size, 3, none⟩ = some (.slice A3 n3 c3) := C2.cell 3
  clear hW B2 hb1 C2 HR
  rcases hv with hv | ⟨hv0, hvl, hv1, hv2⟩
  · go_wp2
    go_ret
    exact ⟨⟨-1, rfl, .inl (by omega)⟩, (by repeat (first | with_reducible exact hW1 | with_reducible apply below_drewN' | with_reducible apply Below.drew | (with_reducible refine Below.alloc ?_ (by first | omega | (simp; omega) | simp) _) | (with_reducible refine Below.setCell ?_ (by first | omega | (simp; omega) | simp) _) | exact hW1))⟩
  · have hvn : ¬ v < 0 := by omega
    by_cases h : v < n3
    · have H := HS v
      rw [if_pos h] at H
      go_wp2_with (go_at_call 60; refine Calls.mono (H _ (by omega)).out ?_; rintro e w2 ⟨rfl, rfl⟩)
      go_ret
      exact ⟨⟨-1, rfl, .inl (by omega)⟩, (by repeat (first | with_reducible exact hW1 | with_reducible apply below_drewN' | with_reducible apply Below.drew | (with_reducible refine Below.alloc ?_ (by first | omega | (simp; omega) | simp) _) | (with_reducible refine Below.setCell ?_ (by first | omega | (simp; omega) | simp) _) | exact hW1))⟩
    · have H := HS v
      rw [if_neg h] at H
      have hm : ¬ v - n3 < 0 := by omega
      go_wp2_with (go_at_call 60; refine Calls.mono (H _ (by omega)).out ?_; rintro e w2 ⟨rfl, rfl⟩)
      go_ret
      exact ⟨⟨v - n3, rfl, .inr ⟨by omega, by omega, hv1, hv2, by omega⟩⟩, (by repeat (first | with_reducible exact hW1 | with_reducible apply below_drewN' | with_reducible apply Below.drew | (with_reducible refine Below.alloc ?_ (by first | omega | (simp; omega) | simp) _) | (with_reducible refine Below.setCell ?_ (by first | omega | (simp; omega) | simp) _) | exact hW1))⟩
/-- the exercise that a copy made -/
def exAgg (L : Int) (B1 : Option Addr) (n1 d1 : Nat) (B2 : Option Addr) (n2 d2 : Nat) (B3 : Option Addr) (n3 d3 : Nat) (p q r : Int) : Value := .agg #[.int .i64 L, .slice B1 n1 d1, .slice B2 n2 d2, .slice B3 n3 d3, .int .i64 p, .int .i64 q, .int .i64 r]
theorem ExLaid.ex {w : World} {A1 : Option Addr} {c1 : Nat} {l1 : List Int} {A2 : Option Addr} {c2 : Nat} {l2 : List Int} {A3 : Option Addr} {c3 : Nat} {l3 : List Term} (X : ExLaid w A1 c1 l1 A2 c2 l2 A3 c3 l3) (h : l1.length ≤ 1048576 ∧ l2.length ≤ 1048576 ∧ l3.length ≤ 1048576) : ExIn w A1 c1 l1 A2 c2 l2 A3 c3 l3 :=
  ⟨h.1, h.2.1, h.2.2, X.k1, X.k2, X.k3, X.s1, X.s2, X.s3⟩
/-- a copy of an exercise: new memory, the same lists -/
def ExCopy (L : Int) (l1 l2 : List Int) (l3 : List Term) (p q r : Int) (v : Value) (w : World) (base : Nat) : Prop := ∃ B1 d1 B2 d2 B3 d3, v = exAgg L B1 l1.length d1 B2 l2.length d2 B3 l3.length d3 p q r ∧ ExIn w B1 d1 l1 B2 d2 l2 B3 d3 l3 ∧
  Own w base 2 1 (.slice B1 l1.length d1) (l1.map ic) ∧ Own w base 2 1 (.slice B2 l2.length d2) (l2.map ic) ∧ Own w base 118 3 (.slice B3 l3.length d3) (l3.map Term.cells)
theorem own_le {w : World} {base n c : Nat} {A : Option Addr} {e : TypeId} {k : Nat} {xs : List (List Value)} (h : Own w base e k (.slice A n c) xs) : n ≤ c := h.le_cap
theorem ExPost.copy {L : Int} {l1 l2 : List Int} {l3 : List Term} {p q r : Int} {w : World} {e : Ending} {w' : World} (h : ExPost L l1 l2 l3 p q r w e w') (hh : l1.length ≤ 1048576 ∧ l2.length ≤ 1048576 ∧ l3.length ≤ 1048576) : (∃ v, e = .returned v ∧ ExCopy L l1 l2 l3 p q r v w' w.heap.size) ∧ Below w.heap.size w w' := by
  obtain ⟨B1, d1, B2, d2, B3, d3, rfl, o1, o2, o3, hb⟩ := h
  exact ⟨⟨_, rfl, B1, d1, B2, d2, B3, d3, rfl, ⟨hh.1, hh.2.1, hh.2.2, o1.le_cap, o2.le_cap, o3.le_cap, o1.sl, o2.sl, o3.sl⟩, o1, o2, o3⟩, hb⟩
theorem ExCopy.below {L : Int} {l1 l2 : List Int} {l3 : List Term} {p q r : Int} {v : Value} {w w' : World} {base : Nat} (h : ExCopy L l1 l2 l3 p q r v w base) (hb : Below w.heap.size w w') : ExCopy L l1 l2 l3 p q r v w' base := by
  obtain ⟨B1, d1, B2, d2, B3, d3, h1, h2, o1, o2, o3⟩ := h
  exact ⟨B1, d1, B2, d2, B3, d3, h1, h2.later hb, o1.below hb, o2.below hb, o3.below hb⟩
theorem ExCopy.weak {L : Int} {l1 l2 : List Int} {l3 : List Term} {p q r : Int} {v : Value} {w : World} {base base' : Nat} (h : ExCopy L l1 l2 l3 p q r v w base) (hb : base' ≤ base) : ExCopy L l1 l2 l3 p q r v w base' := by
  obtain ⟨B1, d1, B2, d2, B3, d3, h1, h2, o1, o2, o3⟩ := h
  exact ⟨B1, d1, B2, d2, B3, d3, h1, h2, o1.mono hb, o2.mono hb, o3.mono hb⟩
theorem toEx_c (L : Int) (A1 : Option Addr) (c1 : Nat) (l1 : List Int) (A2 : Option Addr) (c2 : Nat) (l2 : List Int) (A3 : Option Addr) (c3 : Nat) (l3 : List Term) (p q r : Int) (w : World) (E : ExIn w A1 c1 l1 A2 c2 l2 A3 c3 l3) :
    Calls Tryz.prog 15 #[exAgg L A1 l1.length c1 A2 l2.length c2 A3 l3.length c3 p q r] w fun e w' => (∃ v, e = .returned v ∧ ExCopy L l1 l2 l3 p q r v w' w.heap.size) ∧ Below w.heap.size w w' :=
  (toExercise_c L A1 c1 l1 A2 c2 l2 A3 c3 l3 p q r w E.h1 E.h2 E.h3 E.s1 E.s2 E.s3).mono fun _ _ h => h.copy ⟨E.h1, E.h2, E.h3⟩
theorem eqEx_c (L : Int) (A1 : Option Addr) (c1 : Nat) (A1' : Option Addr) (c1' : Nat) (l1 : List Int) (A2 : Option Addr) (c2 : Nat) (A2' : Option Addr) (c2' : Nat) (l2 : List Int) (A3 : Option Addr) (c3 : Nat) (A3' : Option Addr) (c3' : Nat) (l3 : List Term) (p q r : Int) (w : World)
    (E : ExIn w A1 c1 l1 A2 c2 l2 A3 c3 l3) (E' : ExIn w A1' c1' l1 A2' c2' l2 A3' c3' l3) :
    Calls Tryz.prog 17 #[exAgg L A1 l1.length c1 A2 l2.length c2 A3 l3.length c3 p q r, exAgg L A1' l1.length c1' A2' l2.length c2' A3' l3.length c3' p q r] w fun e w' => e = .returned (.bool true) ∧ Below w.heap.size w w' :=
  eqExercise_c L A1 c1 A1' c1' l1 A2 c2 A2' c2' l2 A3 c3 A3' c3' l3 p q r w E.h1 E.h2 E.h3 E.s1 E'.s1 E.s2 E'.s2 E.s3 E'.s3
/-- while '!eqExercise(x0, toExercise(aX))' runs -/
structure EqS (w1 : World) (b : Bool) (Q : Value → World → Prop) (x : Value) (v : World) : Prop where
  hb : Below w1.heap.size w1 v
  q : b = true → Q x v
set_option maxRecDepth 100000 in
set_option maxHeartbeats 2000000 in
theorem lawIsExercise_c (L : Int) (A1 : Option Addr) (c1 : Nat) (l1 : List Int) (A2 : Option Addr) (c2 : Nat) (l2 : List Int) (A3 : Option Addr) (c3 : Nat) (l3 : List Term) (p q r : Int) (w : World) (X : ExLaid w A1 c1 l1 A2 c2 l2 A3 c3 l3) :
    Calls Tryz.prog 3 #[exAgg L A1 l1.length c1 A2 l2.length c2 A3 l3.length c3 p q r] w fun e w' => e = .returned (.bool true) ∧ Below w.heap.size w w' := by
  have HZ := fun W => Lib.hid (szExercise_c L A1 l1.length c1 A2 l2.length c2 A3 l3.length c3 p q r 1048576 W X.z1 X.z2 X.z3 (by omega))
  have hW : Below w.heap.size w (w.alloc (.cells #[.int .i64 L, .slice A1 l1.length c1, .slice A2 l2.length c2, .slice A3 l3.length c3, .int .i64 p, .int .i64 q, .int .i64 r] 29)) := (by repeat (first | with_reducible exact Below.refl _ _ | with_reducible apply below_drewN' | with_reducible apply Below.drew | (with_reducible refine Below.alloc ?_ (by first | omega | (simp; omega) | simp) _) | (with_reducible refine Below.setCell ?_ (by first | omega | (simp; omega) | simp) _) | exact Below.refl _ _))
  have B1 := Blk.new w 29 #[.int .i64 L, .slice A1 l1.length c1, .slice A2 l2.length c2, .slice A3 l3.length c3, .int .i64 p, .int .i64 q, .int .i64 r]
  have X := Lib.hid X
  unfold exAgg
  go_enter Tryz.func3, Tryz.ntmps3
  go_wp2_with fail
  generalize w.alloc (.cells #[.int .i64 L, .slice A1 l1.length c1, .slice A2 l2.length c2, .slice A3 l3.length c3, .int .i64 p, .int .i64 q, .int .i64 r] 29) = W at *
  refine Calls.mono (HZ W).out ?_; rintro e w1 ⟨⟨v, rfl, hv⟩, hb1⟩
  have hW1 := hW.trans (hb1.mono hW.size)
  have C1 := B1.below hb1 B1.lt
  clear hW B1 hb1 HZ
  rcases hv with hv | ⟨hv0, _, hlen⟩
  · clear C1
    go_wp2
    go_ret
    exact ⟨rfl, (by repeat (first | with_reducible exact hW1 | with_reducible apply below_drewN' | with_reducible apply Below.drew | (with_reducible refine Below.alloc ?_ (by first | omega | (simp; omega) | simp) _) | (with_reducible refine Below.setCell ?_ (by first | omega | (simp; omega) | simp) _) | exact hW1))⟩
  have hvn : ¬ v < 0 := by omega
  have E := Lib.hid (X.out.ex hlen)
  clear X hlen
  have HT := fun (W : World) (hW : Below w.heap.size w W) => Lib.hid (toEx_c L A1 c1 l1 A2 c2 l2 A3 c3 l3 p q r W (E.out.later hW))
  unfold exAgg at HT
  have HT := Lib.hid HT
  have HSp := fun (B1 : Option Addr) d1 B2 d2 B3 d3 W (E' : ExIn W B1 d1 l1 B2 d2 l2 B3 d3 l3) => Lib.hid (specIsExercise_c L B1 d1 l1 B2 d2 l2 B3 d3 l3 p q r W E')
  have HIm := fun (B1 : Option Addr) d1 B2 d2 B3 d3 W (E' : ExIn W B1 d1 l1 B2 d2 l2 B3 d3 l3) => Lib.hid (implIsExercise_c L B1 d1 l1 B2 d2 l2 B3 d3 l3 p q r W E')
  have HSp := Lib.hid HSp
  have HIm := Lib.hid HIm
  generalize exB L l1 l2 l3 p q r = exb at *
  have y0 : w1.cell? ⟨w.heap.size, 0, none⟩ = some (.int .i64 L) := C1.cell 0
  have y1 : w1.cell? ⟨w.heap.size, 1, none⟩ = some (.slice A1 l1.length c1) := C1.cell 1
  have y2 : w1.cell? ⟨w.heap.size, 2, none⟩ = some (.slice A2 l2.length c2) := C1.cell 2
  have y3 : w1.cell? ⟨w.heap.size, 3, none⟩ = some (.slice A3 l3.length c3) := C1.cell 3
  have y4 : w1.cell? ⟨w.heap.size, 4, none⟩ = some (.int .i64 p) := C1.cell 4
  have y5 : w1.cell? ⟨w.heap.size, 5, none⟩ = some (.int .i64 q) := C1.cell 5
  have y6 : w1.cell? ⟨w.heap.size, 6, none⟩ = some (.int .i64 r) := C1.cell 6
  go_wp2_with fail
  refine Calls.mono (HT.out w1 hW1).out ?_; rintro e w2 ⟨⟨v2, rfl, B1, d1, B2, d2, B3, d3, rfl, E2, _, _, _⟩, hb2⟩
  have hW2 := hW1.trans (hb2.mono hW1.size)
  have C2 := C1.below hb2 C1.lt
  clear y0 y1 y2 y3 y4 y5 y6 hb2 C1 hW1
  have hcall := HSp.out B1 d1 B2 d2 B3 d3 w2 E2
  clear E2
  unfold exAgg
  go_wp2_with fail
  refine Calls.mono hcall.out ?_; rintro e w3 ⟨rfl, hb3⟩
  have hW3 := hW2.trans (hb3.mono hW2.size)
  have C3 := C2.below hb3 C2.lt
  clear hb3 C2 hW2 hcall HSp
  have y0 : w3.cell? ⟨w.heap.size, 0, none⟩ = some (.int .i64 L) := C3.cell 0
  have y1 : w3.cell? ⟨w.heap.size, 1, none⟩ = some (.slice A1 l1.length c1) := C3.cell 1
  have y2 : w3.cell? ⟨w.heap.size, 2, none⟩ = some (.slice A2 l2.length c2) := C3.cell 2
  have y3 : w3.cell? ⟨w.heap.size, 3, none⟩ = some (.slice A3 l3.length c3) := C3.cell 3
  have y4 : w3.cell? ⟨w.heap.size, 4, none⟩ = some (.int .i64 p) := C3.cell 4
  have y5 : w3.cell? ⟨w.heap.size, 5, none⟩ = some (.int .i64 q) := C3.cell 5
  have y6 : w3.cell? ⟨w.heap.size, 6, none⟩ = some (.int .i64 r) := C3.cell 6
  go_wp2_with fail
  refine Calls.mono (HT.out w3 hW3).out ?_; rintro e w4 ⟨⟨v4, rfl, G1, g1, G2, g2, G3, g3, rfl, E4, _, _, _⟩, hb4⟩
  have hW4 := hW3.trans (hb4.mono hW3.size)
  have C4 := C3.below hb4 C3.lt
  clear y0 y1 y2 y3 y4 y5 y6 hb4 C3 hW3
  unfold exAgg
  have hba : Below w4.heap.size w4 (w4.alloc (.cells #[.int .i64 L, .slice G1 l1.length g1, .slice G2 l2.length g2, .slice G3 l3.length g3, .int .i64 p, .int .i64 q, .int .i64 r] 36)) := (Below.refl _ _).alloc (Nat.le_refl _) _
  have hcall := HIm.out G1 g1 G2 g2 G3 g3 _ (E4.later hba)
  go_wp2_with fail
  have E5 := E4.later hba
  have C5 := C4.below hba C4.lt
  have D5 := Blk.new w4 36 #[.int .i64 L, .slice G1 l1.length g1, .slice G2 l2.length g2, .slice G3 l3.length g3, .int .i64 p, .int .i64 q, .int .i64 r]
  have hW5 := hW4.trans (hba.mono hW4.size)
  clear E4 C4 hW4 hba
  generalize w4.alloc (.cells #[.int .i64 L, .slice G1 l1.length g1, .slice G2 l2.length g2, .slice G3 l3.length g3, .int .i64 p, .int .i64 q, .int .i64 r] 36) = w5 at *
  generalize w4.heap.size = gx at *
  refine Calls.mono hcall.out ?_; rintro e w6 ⟨rfl, hb6⟩
  have E6 := Lib.hid (E5.later hb6)
  have C6 := C5.below hb6 C5.lt
  have D6 := D5.below hb6 D5.lt
  have hW6 := hW5.trans (hb6.mono hW5.size)
  clear E5 C5 D5 hW5 hb6 hcall HIm
  cases exb
  all_goals
    go_wp2_with fail
    refine wp_region_sink 4 (fun a0 fL bA v => ∃ v22 v23 v24 v25 : Value, bA = (((a0.put (some 22) v22).put (some 23) v23).put (some 24) v24).put (some 25) v25 ∧ (EqS w6 (fL 2) (fun x v => ExCopy L l1 l2 l3 p q r x v w6.heap.size) v24 v) ∧ (fL 0 = true → v22 = .agg #[.int .i64 L, .slice G1 l1.length g1, .slice G2 l2.length g2, .slice G3 l3.length g3, .int .i64 p, .int .i64 q, .int .i64 r]) ∧ (fL 1 = true → v23 = .agg #[.int .i64 L, .slice A1 l1.length c1, .slice A2 l2.length c2, .slice A3 l3.length c3, .int .i64 p, .int .i64 q, .int .i64 r]) ∧ (fL 2 = true → True) ∧ (fL 3 = true → v25 = .bool true)) (by kernel_rfl) (by decide +kernel) ?_ ?_ ?_
    · exact ⟨undef, undef, undef, undef, by simp only [Act.put, List.setIfInBounds_toArray, List.set_cons_zero, List.set_cons_succ], ⟨(Below.refl _ _).drew, nofun⟩, nofun, nofun, nofun, nofun⟩
    · rintro fL bA v ⟨v22, v23, v24, v25, rfl, hS, q0, q1, q2, q3⟩ i hi hf o ho hall
      simp only [Act.put, List.setIfInBounds_toArray, List.set_cons_zero, List.set_cons_succ]
      have hn : i = 0 ∨ i = 1 ∨ i = 2 ∨ i = 3 := by omega
      clear hi
      rcases hn with rfl | rfl | rfl | rfl
      · obtain rfl := Option.some.inj ho
        have F := D6.below hS.hb D6.lt
        have y0 : v.cell? ⟨gx, 0, none⟩ = some (.int .i64 L) := F.cell 0
        have y1 : v.cell? ⟨gx, 1, none⟩ = some (.slice G1 l1.length g1) := F.cell 1
        have y2 : v.cell? ⟨gx, 2, none⟩ = some (.slice G2 l2.length g2) := F.cell 2
        have y3 : v.cell? ⟨gx, 3, none⟩ = some (.slice G3 l3.length g3) := F.cell 3
        have y4 : v.cell? ⟨gx, 4, none⟩ = some (.int .i64 p) := F.cell 4
        have y5 : v.cell? ⟨gx, 5, none⟩ = some (.int .i64 q) := F.cell 5
        have y6 : v.cell? ⟨gx, 6, none⟩ = some (.int .i64 r) := F.cell 6
        clear hall ho
        refine wpOp_step rfl (fun K hK => ?_)
        go_simp
        exact hK _ _ ⟨_, _, _, _, rfl, hS, fun _ => rfl, q1, fun _ => trivial, q3⟩
      · obtain rfl := Option.some.inj ho
        have F := C6.below hS.hb C6.lt
        have y0 : v.cell? ⟨w.heap.size, 0, none⟩ = some (.int .i64 L) := F.cell 0
        have y1 : v.cell? ⟨w.heap.size, 1, none⟩ = some (.slice A1 l1.length c1) := F.cell 1
        have y2 : v.cell? ⟨w.heap.size, 2, none⟩ = some (.slice A2 l2.length c2) := F.cell 2
        have y3 : v.cell? ⟨w.heap.size, 3, none⟩ = some (.slice A3 l3.length c3) := F.cell 3
        have y4 : v.cell? ⟨w.heap.size, 4, none⟩ = some (.int .i64 p) := F.cell 4
        have y5 : v.cell? ⟨w.heap.size, 5, none⟩ = some (.int .i64 q) := F.cell 5
        have y6 : v.cell? ⟨w.heap.size, 6, none⟩ = some (.int .i64 r) := F.cell 6
        clear hall ho
        refine wpOp_step rfl (fun K hK => ?_)
        go_simp
        exact hK _ _ ⟨_, _, _, _, rfl, hS, q0, fun _ => rfl, fun _ => trivial, q3⟩
      · obtain rfl := Option.some.inj ho
        obtain rfl := q1 (hall ⟨1, .data⟩ (by simp) rfl)
        clear hall ho
        refine wpOp_step rfl (fun K hK => ?_)
        go_simp
        refine Calls.mono (HT.out v (hW6.trans (hS.hb.mono hW6.size))).out ?_; rintro e w7 ⟨⟨u, rfl, hu⟩, hb7⟩
        go_simp
        exact hK _ _ ⟨_, _, _, _, rfl, ⟨hS.hb.trans (hb7.mono hS.hb.size), fun _ => hu.weak hS.hb.size⟩, q0, fun _ => rfl, fun _ => trivial, q3⟩
      · obtain rfl := Option.some.inj ho
        obtain rfl := q0 (hall ⟨0, .data⟩ (by simp) rfl)
        have e2 : fL 2 = true := hall ⟨2, .data⟩ (by simp) rfl
        clear hall ho
        refine wpOp_step rfl (fun K hK => ?_)
        obtain ⟨H1, h1, H2, h2, H3, h3, rfl, EH, _, _, _⟩ := hS.q e2
        go_simp
        refine Calls.mono (eqEx_c L G1 g1 H1 h1 l1 G2 g2 H2 h2 l2 G3 g3 H3 h3 l3 p q r v (E6.out.later hS.hb) EH) ?_; rintro e w7 ⟨rfl, hb7⟩
        go_simp
        exact hK _ _ ⟨_, _, _, _, rfl, ⟨hS.hb.trans (hb7.mono hS.hb.size), fun e => (hS.q e).below hb7⟩, fun _ => rfl, q1, fun _ => trivial, fun _ => rfl⟩
    · rintro fL bA v ⟨v22, v23, v24, v25, rfl, hS, q0, q1, q2, q3⟩ hall
      simp only [Act.put, List.setIfInBounds_toArray, List.set_cons_zero, List.set_cons_succ]
      obtain rfl := q0 (hall 0 (by omega))
      obtain rfl := q1 (hall 1 (by omega))
      have e2 : fL 2 = true := hall 2 (by omega)
      obtain rfl := q3 (hall 3 (by omega))
      clear hall
      simp only [List.drop_succ_cons, List.drop_zero]
      have hbv := hW6.trans (hS.hb.mono hW6.size)
      go_wp2
      go_ret
      exact ⟨rfl, (by repeat (first | with_reducible exact hbv | with_reducible apply below_drewN' | with_reducible apply Below.drew | (with_reducible refine Below.alloc ?_ (by first | omega | (simp; omega) | simp) _) | (with_reducible refine Below.setCell ?_ (by first | omega | (simp; omega) | simp) _) | exact hbv))⟩
end Go.Proofs.YtgkobjpoeajkdaaGreat
