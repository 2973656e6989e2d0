/- How a law's row is closed: from a walk that returns true and leaves all old memory as it was. -/
import Derived.Test.YtkjommcmeinkaaaGreatDoorRows
import Derived.WalkKit
import Derived.ProofKit
import Derived.OpenShut
import Derived.SizedLaws
import Derived.Deep.Slices
import Derived.Deep.Fields
import Derived.Lib.SmallJoins
import Derived.Test.YtkjommcmeinkaaaGreatDoorMem
namespace Go.Proofs.YtkjommcmeinkaaaGreatDoor
open Go.ChangeShapes Go.WideShapes Go.ChangeAt Go.RowKit Go.Deep

theorem own : ownKnob Tryz.prog.godebug = none := by kernel_rfl
set_option maxRecDepth 100000 in
theorem laidOut : laidOutB Tryz.prog = true := by kernel_rfl

section
variable {H : Type} {enc : TypeId × Value → H} {P : Program}
theorem trodAll_below (hl : laidOutB P = true) {W W' : World} (hb : Below W.heap.size W W') :
    ∀ (ts : List TypeId) (vs : List Value) (ds : List (DataW H)) (ps : List MemPlace), ts.all (fun t => P.readableRec t && decide (t < P.types.size)) = true →
      (∀ x ∈ ps, x.block < W.heap.size) → DataW.TrodAll enc P W 0 (fun _ => true) true ts vs ds ps → DataW.TrodAll enc P W' 0 (fun b => decide (b < W.heap.size)) true ts vs ds ps := by
  intro ts
  induction ts with
  | nil =>
    intro vs ds ps _ _ h
    obtain ⟨rfl, rfl, rfl⟩ := trodAll_nil h
    exact trodAll_mk0
  | cons t ts ih =>
    intro vs ds ps hr hlt h
    obtain ⟨v, vs', d, ds', p, q, rfl, rfl, rfl, h0, h1⟩ := trodAll_cons h
    simp only [List.all_cons, Bool.and_eq_true, decide_eq_true_eq] at hr
    exact trodAll_cons_mk (Below.trod hl hr.1.1 hr.1.2 h0 hb fun x hx => hlt x (List.mem_append_left _ hx)) (ih vs' ds' q (by simpa using hr.2) (fun x hx => hlt x (List.mem_append_right _ hx)) h1)

theorem trodAll_length {w : World} {base : Nat} {spare : Nat → Bool} {held : Bool} :
    ∀ (ts : List TypeId) (vs : List Value) (ds : List (DataW H)) (ps : List MemPlace), DataW.TrodAll enc P w base spare held ts vs ds ps → ds.length = ts.length := by
  intro ts
  induction ts with
  | nil => intro vs ds ps h; obtain ⟨rfl, rfl, rfl⟩ := trodAll_nil h; rfl
  | cons t ts ih =>
    intro vs ds ps h
    obtain ⟨v, vs', d, ds', p, q, rfl, rfl, rfl, h0, h1⟩ := trodAll_cons h
    simp [ih _ _ _ h1]
end

theorem bounds_i64 {n : Int} (h : (Lit.int .i64 n).wf = true) : -9223372036854775808 ≤ n ∧ n ≤ 9223372036854775807 := by
  simpa [Lit.wf, IntKind.min, IntKind.max, IntKind.signed, IntKind.bits] using h


section
variable {H : Type} {enc : TypeId × Value → H} {P : Program} {w : World} {base : Nat} {spare : Nat → Bool} {held : Bool}
/-- A struct of int64 fields, read as data. -/
theorem struct_ints {t tI : TypeId} {fs : Array Field} {n : Nat} {cs : List Value} {y : DataW H × List MemPlace} (ht : P.underlying t = some (.struct fs)) (hI : P.underlying tI = some (.int .i64)) (hone : oneCellFields P fs = true)
    (hall : fs.all (fun f => f.type == tI) = true) (hC : P.cellsOf t = fs.size) (h : DataW.trod enc P w base spare held n t cs = some y) :
    ∃ ns : List Int, ns.length = fs.size ∧ cs = ns.map (Value.int .i64) ∧ ∀ m ∈ ns, (Lit.int .i64 m).wf = true := by
  obtain ⟨xs, n', _, _, hlen, hxl, hf⟩ := DataW.trod_struct ht h
  rw [hC] at hlen
  have hcell : ∀ i, i < fs.size → ∃ m, cs[i]? = some (Value.int .i64 m) ∧ (Lit.int .i64 m).wf = true := by
    intro i hi
    have hfi : fs[i]? = some fs[i] := Array.getElem?_eq_getElem hi
    obtain ⟨ho, hk⟩ := hone_of hone i _ hfi
    have hty : fs[i].type = tI := by
      have := Array.all_eq_true.1 hall i hi
      simpa using this
    have h1 := hf i _ hfi
    rw [ho, hk, hty] at h1
    have hone' : (cs.drop i).take 1 = [cs[i]'(by omega)] := by
      rw [List.drop_eq_getElem_cons (by omega)]; rfl
    rw [hone', List.getElem?_eq_getElem (show i < xs.length by omega)] at h1
    obtain ⟨m, hm, _, hwf⟩ := DataW.trod_int hI h1
    simp only [List.cons.injEq, and_true] at hm
    exact ⟨m, by rw [List.getElem?_eq_getElem (by omega), hm], hwf⟩
  refine ⟨cs.map intOf, by simpa using hlen, ?_, ?_⟩
  · apply List.ext_getElem?
    intro i
    by_cases hi : i < fs.size
    · obtain ⟨m, hm, _⟩ := hcell i hi
      simp [hm, intOf]
    · rw [List.getElem?_eq_none (by omega), List.getElem?_eq_none (by simp; omega)]
  · intro m hm
    obtain ⟨v, hv, rfl⟩ := List.mem_map.1 hm
    obtain ⟨i, hi, rfl⟩ := List.getElem_of_mem hv
    obtain ⟨m, hm', hwf⟩ := hcell i (by omega)
    rw [List.getElem?_eq_getElem hi] at hm'
    simp only [Option.some.injEq] at hm'
    rw [hm']
    exact hwf

/-- An argument that is a slice of structs: the rows of its cells. -/
theorem open_rowsV {t e : TypeId} {k : Nat} {b0 : Nat} {r : Reach} {v : Value} {d : DataW H} {p : List MemPlace} {ok : List Value → Prop} (ht : P.underlying t = some (.slice e)) (hC : P.cellsOf e = k) (hk : 0 < k) (hby : 0 < P.bytesOf e)
    (hdec : ∀ n cs y, DataW.trod enc P w 0 (fun _ => true) true n e cs = some y → cs.length = k → ok cs)
    (hv : Value.okWide P w r b0 t v) (h : DataW.Trod enc P w 0 (fun _ => true) true t v d p) (hlt : ∀ x ∈ p, x.block < w.heap.size)
    (hsz : ∀ elems spare, d = .slice elems spare → (elems.length + spare.length) * P.bytesOf e ≤ reachBytes) :
    ∃ (A : Option Addr) (n c : Nat) (xs : List (List Value)), v = .slice A n c ∧ xs.length = n ∧ (∀ x ∈ xs, x.length = k ∧ ok x) ∧ Sl w w.heap.size k A xs ∧ n ≤ 140737488351232 := by
  obtain ⟨A, len, cap, rfl⟩ := okWide_slice ht hv
  obtain ⟨fuel, hf⟩ := h
  rcases Go.Deep.open_slice ht hf with ⟨hcs, _⟩ | ⟨a, len', cap', m, n, D, Pl, hcs, hb, hl, hm, hmm, hx, hi⟩
  · simp [Value.cells] at hcs
    obtain ⟨rfl, rfl, rfl⟩ := hcs
    exact ⟨none, 0, 0, [], rfl, rfl, by simp, Sl.nil_, by omega⟩
  · simp [Value.cells] at hcs
    obtain ⟨rfl, rfl, rfl⟩ := hcs
    simp only [if_true] at hmm
    subst hmm
    rw [hC] at hx hi
    have hpl : p = MemPlace.row a (m * k) ++ (List.range m).flatMap Pl := (Prod.mk.inj hx).2
    have hd : d = _ := (Prod.mk.inj hx).1
    have hn : len ≤ 140737488351232 := by
      have h1 := hsz _ _ hd
      simp only [List.length_map, List.length_range] at h1
      have h2 : (len + (m - len)) * 1 ≤ (len + (m - len)) * P.bytesOf e := Nat.mul_le_mul_left _ hby
      unfold reachBytes at h1
      omega
    have hex : ∀ i, ∃ cs' : List Value, i < m → (cs'.length = k ∧ ok cs' ∧ ∀ j u, cs'[j]? = some u → w.cell? (a.add (i * k + j)) = some u) := by
      intro i
      by_cases hi' : i < m
      · obtain ⟨cs', hcs', ht'⟩ := hi i hi'
        obtain ⟨_, hlen, hat⟩ := World.cells?_some hcs'
        refine ⟨cs', fun _ => ⟨hlen, hdec _ _ _ ht' hlen, fun j u hu => ?_⟩⟩
        have hj : j < k := by have := (List.getElem?_eq_some_iff.1 hu).1; omega
        rw [← Go.Deep.add_add, hat j hj, hu]
      · exact ⟨[], fun h => absurd h hi'⟩
    have hex' : ∃ f : Nat → List Value, ∀ i, i < m → ((f i).length = k ∧ ok (f i) ∧ ∀ j u, (f i)[j]? = some u → w.cell? (a.add (i * k + j)) = some u) := ⟨fun i => Classical.choose (hex i), fun i => Classical.choose_spec (hex i)⟩
    obtain ⟨f, hf'⟩ := hex'
    refine ⟨some a, len, m, (List.range len).map f, rfl, by simp, ?_, ?_, hn⟩
    · intro x hx'
      obtain ⟨i, hi', rfl⟩ := List.mem_map.1 hx'
      have := hf' i (by have := List.mem_range.1 hi'; omega)
      exact ⟨this.1, this.2.1⟩
    · intro i x hx'
      rw [List.getElem?_map] at hx'
      by_cases hil : i < len
      · rw [List.getElem?_range hil] at hx'
        simp only [Option.map_some, Option.some.injEq] at hx'
        subst hx'
        obtain ⟨h1, h2, h3⟩ := hf' i (by omega)
        have hf0 := hf' 0 (by omega)
        have hc0 := hf0.2.2 0 ((f 0)[0]'(by omega)) (List.getElem?_eq_getElem (by omega))
        obtain ⟨b, off, spot⟩ := a
        have hspot : spot = none := by
          have := World.cell?_spot hc0
          simpa [Addr.add] using this
        subst hspot
        have hbW : b < w.heap.size := hlt (.cell b off) (by
          rw [hpl]
          exact List.mem_append_left _ (MemPlace.mem_row.2 ⟨0, Nat.mul_pos (by omega) hk, by simp⟩))
        refine ⟨h1, b, off, rfl, hbW, fun j u hu => ?_⟩
        have := h3 j u hu
        rw [add_plain, ← Nat.add_assoc] at this
        exact this
      · rw [List.getElem?_eq_none (by simpa using hil)] at hx'
        cases hx'
theorem sized_at {ts : List TypeId} {ds : List (DataW H)} (h : (DataW.weightsEach P ts ds).all (· ≤ reachBytes) = true) {j : Nat} {t e : TypeId} {d : DataW H} (ht : ts[j]? = some t) (hd : ds[j]? = some d) (hu : P.underlying t = some (.slice e)) :
    ∀ elems spare, d = .slice elems spare → (elems.length + spare.length) * P.bytesOf e ≤ reachBytes := fun elems spare he => sized_slice h ht (hd.trans (by rw [he])) hu
end
/-- the same, the elements structs of int64 fields -/
theorem open_rows {H : Type} {enc : TypeId × Value → H} {P : Program} {w : World} {t e tI : TypeId} {fs : Array Field} {b0 : Nat} {r : Reach} {v : Value} {d : DataW H} {p : List MemPlace} (ht : P.underlying t = some (.slice e)) (he : P.underlying e = some (.struct fs)) (hI : P.underlying tI = some (.int .i64))
    (hone : oneCellFields P fs = true) (hall : fs.all (fun f => f.type == tI) = true) (hC : P.cellsOf e = fs.size) (hk : 0 < fs.size) (hby : 0 < P.bytesOf e)
    (hv : Value.okWide P w r b0 t v) (h : DataW.Trod enc P w 0 (fun _ => true) true t v d p) (hlt : ∀ x ∈ p, x.block < w.heap.size)
    (hsz : ∀ elems spare, d = .slice elems spare → (elems.length + spare.length) * P.bytesOf e ≤ reachBytes) :
    ∃ (A : Option Addr) (c : Nat) (rows : List (List Int)), v = .slice A rows.length c ∧ (∀ x ∈ rows, x.length = fs.size ∧ ∀ m ∈ x, (Lit.int .i64 m).wf = true) ∧ Sl w w.heap.size fs.size A (rows.map (·.map (Value.int .i64))) ∧ rows.length ≤ 140737488351232 := by
  obtain ⟨A, n, c, xs, rfl, hn, hx, hs, hl⟩ := open_rowsV (ok := fun cs => ∃ ns : List Int, ns.length = fs.size ∧ cs = ns.map (Value.int .i64) ∧ ∀ m ∈ ns, (Lit.int .i64 m).wf = true) ht hC hk hby (fun n cs y hy _ => struct_ints he hI hone hall hC hy) hv h hlt hsz
  have hxs : xs = (xs.map (·.map intOf)).map (·.map (Value.int .i64)) := by
    rw [List.map_map]
    conv => lhs; rw [← List.map_id xs]
    apply List.map_congr_left
    intro x hxm
    obtain ⟨_, ns, _, rfl, _⟩ := hx x hxm
    simp [Function.comp_def, intOf]
  refine ⟨A, c, xs.map (·.map intOf), by simp [hn], ?_, ?_, by simpa [hn] using hl⟩
  · intro y hy
    obtain ⟨x, hxm, rfl⟩ := List.mem_map.1 hy
    obtain ⟨_, ns, h1, rfl, h2⟩ := hx x hxm
    simpa [Function.comp_def, intOf] using ⟨h1, h2⟩
  · rw [← hxs]
    exact hs

/-- An argument that is a struct of int64 fields, by value. -/
theorem open_agg_ints {H : Type} {enc : TypeId × Value → H} {P : Program} {w : World} {t tI : TypeId} {fs : Array Field} {b0 base : Nat} {spare : Nat → Bool} {held : Bool} {r : Reach} {v : Value} {d : DataW H} {p : List MemPlace} (ht : P.underlying t = some (.struct fs)) (hI : P.underlying tI = some (.int .i64))
    (hone : oneCellFields P fs = true) (hall : fs.all (fun f => f.type == tI) = true) (hC : P.cellsOf t = fs.size)
    (hv : Value.okWide P w r b0 t v) (h : DataW.Trod enc P w base spare held t v d p) :
    ∃ ns : List Int, ns.length = fs.size ∧ v = .agg (ns.map (Value.int .i64)).toArray ∧ ∀ m ∈ ns, (Lit.int .i64 m).wf = true := by
  obtain ⟨cs, rfl, _⟩ := okWide_struct ht hv
  obtain ⟨fuel, hf⟩ := h
  obtain ⟨ns, h1, h2, h3⟩ := struct_ints ht hI hone hall hC hf
  refine ⟨ns, h1, ?_, h3⟩
  rw [← h2]
  simp [Value.cells]

set_option maxRecDepth 100000 in
/-- The row's step, out of a walk. -/
theorem lifted_of {os : Os} (started : os.Started) {H : Type} {enc : TypeId × Value → H} {K : FuncId} {fn : Func} {s : ChangeSpec}
    (noInit : Tryz.checked.prog.inits.idxOf? K = none) (hfn : Tryz.checked.prog.funcs[K]? = some fn)
    (witness : ∃ (w : World) (tape : Tape) (i : Input), w.os = os ∧ (w.forCall tape i).Shaped Tryz.checked.prog ∧ i.vars = [] ∧ Input.okWide Tryz.checked.prog (w.forCall tape i) .any w.heap.size K i ∧
      s.pre6 enc Tryz.checked.prog fn [] false (w.forCall tape i).memory i.args ∧ ({} : Assume).holds Tryz.checked.prog (lone (Frame.enter Tryz.checked.prog K i.args .normal) [] (w.forCall tape i)))
    (hv : s.vars = []) (hrt : fn.resultTypes = #[4])
    (hs : ∀ ds : List (DataW H), ds.length = fn.params.toList.length → s.fn H (ds ++ []) = { results := [.lit (.bool true)], args := ds })
    (hpr : fn.params.toList.all (fun t => Tryz.prog.readableRec t && decide (t < Tryz.prog.types.size)) = true)
    (walk : ∀ (W : World) (base : Nat) (args : Array Value) (ds : List (DataW H)) (ps : List MemPlace),
      (∀ (j : Nat) t v, fn.params[j]? = some t → args[j]? = some v → Value.okWide Tryz.prog W .any base t v) →
      DataW.TrodAll enc Tryz.prog W 0 (fun _ => true) true fn.params.toList args.toList ds ps → (∀ x ∈ ps, x.block < W.heap.size) →
      (DataW.weightsEach Tryz.prog fn.params.toList ds).all (· ≤ reachBytes) = true →
      Calls Tryz.prog K args W fun e W' => e = .returned (.bool true) ∧ Below W.heap.size W W') :
    ReturnsInHanded {} Tryz.checked os K .any (s.pre6 enc Tryz.prog fn [] false) (s.post enc Tryz.prog fn false true false false) := by
  refine returnsInHanded_of_change_sized (C := Tryz.checked) own started noInit hfn witness ?_
  intro W base args ds gs before hval hW _ hsz _
  have hW' := hW
  obtain ⟨p, q, hA, hV, rfl, hfz, hnd⟩ := hW
  rw [hv] at hV
  obtain ⟨rfl, rfl⟩ := trodVars_none hV
  have hlt : ∀ x ∈ p, x.block < W.heap.size := fun x hx => by simpa using hW'.lt x (List.mem_append_left _ hx)
  have hty : s.plain.varTypes Tryz.checked.prog = [] := by
    unfold DataSpec.varTypes ChangeSpec.plain
    rw [hv]
    rfl
  rw [hty] at hsz
  simp only [List.append_nil] at hsz
  refine (walk W base args ds p hval hA hlt hsz).mono fun e W' ⟨he, hb⟩ => ?_
  subst he
  have hlen := trodAll_length _ _ _ _ hA
  refine ⟨_, rfl, ds, [], p ++ [], [], p ++ [], [], hW', ?_, ?_, ?_, hb.frame _, fun h => by cases h⟩
  · rw [hs ds hlen, hrt]
    exact trodAll_mk1 (shut_bool Tryz.underlying4 _)
  · rw [hs ds hlen]
    have h := trodAll_below laidOut hb _ _ _ _ hpr hlt hA
    rw [List.append_nil]
    exact h
  · rw [hs ds hlen, hv]
    rfl
end Go.Proofs.YtkjommcmeinkaaaGreatDoor
