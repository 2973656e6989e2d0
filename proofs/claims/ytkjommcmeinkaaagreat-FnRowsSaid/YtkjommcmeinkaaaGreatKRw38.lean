/- slices.IndexFunc and slices.DeleteFunc at []int64, at a predicate that makes nothing but new memory. The slice that is shortened is the call's own. -/
import Derived.Shelf.Abstract
import Derived.Lib.SliceRun
import Derived.Test.YtkjommcmeinkaaaGreatKRw20
set_option linter.unusedSimpArgs false
namespace Go.Proofs.YtkjommcmeinkaaaGreat
open Go.RowKit
theorem stores_cells (g : Nat) : ∀ (vs : List Value) (p : Nat) (w : World), w.setCells g p vs = stores w g p vs
  | [], _, _ => rfl
  | _ :: r, p, _ => stores_cells g r (p + 1) _
theorem ic_flat (l : List Int) : (l.map ic).flatten = l.map (Value.int .i64) := by
  induction l with
  | nil => rfl
  | cons x r ih => rw [List.map_cons, List.flatten_cons, ih]; rfl
/-- what lies behind place i is overwritten, and the slice is cut there -/
theorem Own.cut {w : World} {base : Nat} {e : TypeId} {g n cap i : Nat} {l : List Int} (h : Own w base e 1 (.slice (some ⟨g, 0, none⟩) n cap) (l.map ic)) (hi : i ≤ n) (vs : List Value) (hv : vs.length = n - i) :
    Own (w.setCells g i vs) base e 1 (.slice (some ⟨g, 0, none⟩) i cap) ((l.take i).map ic) := by
  have hn : n = l.length := by
    obtain ⟨A, c, hh, _⟩ := h.form
    simp only [Value.slice.injEq] at hh; simpa using hh.2.1
  obtain ⟨h1, h2⟩ := h
  refine ⟨?_, fun y hy => by obtain ⟨z, _, rfl⟩ := List.mem_map.1 hy; rfl⟩
  rw [stores_cells, ic_flat, List.length_map, List.length_take, Nat.min_eq_left (by omega)]
  rw [ic_flat, List.length_map] at h1
  have h3 : (stores w g i vs).ownsRow base e 1 (.slice (some ⟨g, 0, none⟩) n cap) n ((l.take i).map (Value.int .i64) ++ vs ++ []) := by
    refine ownsRow_stores vs i w _ ((l.drop i).map (Value.int .i64)) [] ?_ (by simp; omega) (by simp; omega)
    rw [List.append_nil, ← List.map_append, List.take_append_drop, hn]
    rw [hn] at h1
    exact h1
  rw [List.append_nil] at h3
  refine ⟨by simp; omega, ?_⟩
  rcases h3.2 with ⟨h', _⟩ | ⟨g', cap', cur, hs, hb, hh, hc, hm, hz, ht⟩
  · simp at h'
  · refine .inr ⟨g', cap', cur, ?_, hb, hh, by omega, hm, hz, ?_⟩
    · simp only [Value.slice.injEq] at hs ⊢; exact ⟨hs.1, trivial, hs.2.2⟩
    · have := congrArg (List.take i) ht
      rw [List.take_take, List.take_append_of_le_length (by simp; omega), List.take_of_length_le (l := (l.take i).map _) (by simp; omega)] at this
      rw [← this, Nat.mul_one]
      congr 1
      omega
/-- the function value computes p in every world that keeps what lies below block B -/
def PredI (B : Nat) (g : FuncId) (lb : Array Value) (p : Int → Bool) (w : World) : Prop :=
  ∀ (x : Int) (W : World), Below B w W → Calls Tryz.prog g (#[.int .i64 x] ++ lb) W fun e w' => e = .returned (.bool (p x)) ∧ Below W.heap.size W w'
def IdxPostI (p : Int → Bool) (l : List Int) (w : World) (e : Ending) (w' : World) : Prop :=
  (∃ r : Int, e = .returned (.int .i64 r) ∧ ((r = -1 ∧ l.filter (fun x => !p x) = l) ∨ ∃ k : Nat, r = k ∧ k < l.length ∧ (l.take (k + 1)).filter (fun x => !p x) = l.take k)) ∧ Below w.heap.size w w'
theorem filter_all {l : List Int} {p : Int → Bool} (h : ∀ x ∈ l, p x = false) : l.filter (fun x => !p x) = l := by
  rw [List.filter_eq_self]
  intro x hx
  rw [h x hx]; rfl
set_option maxRecDepth 100000 in
theorem indexFuncI_c (B : Nat) (A : Option Addr) (c : Nat) (l : List Int) (g : FuncId) (lb : Array Value) (p : Int → Bool) (w : World)
    (eg : ∀ args w, (callFunc g args).run Tryz.prog w = .ok (.enter g args) w) (hp : PredI B g lb p w) (hB : B ≤ w.heap.size) (hl : l.length ≤ 140737488351232) (hs : Sl w w.heap.size 1 A (l.map ic)) :
    Calls Tryz.prog 61 #[.slice A l.length c, .func (.func g) #[] lb] w (IdxPostI p l w) := by
  go_enter Tryz.func61, Tryz.ntmps61
  go_wp2_with fail
  go_loopw [8] (fun i wr => ∃ k : Nat, k ≤ l.length ∧ i = .int .i64 k ∧ Below w.heap.size w wr ∧ Hid (∀ x ∈ l.take k, p x = false)) (fun i _ => l.length - (intOf i).toNat)
  case atStart => exact ⟨0, Nat.zero_le _, rfl, Below.refl _ _, (show ∀ x ∈ l.take 0, p x = false from by simp)⟩
  case round =>
    obtain ⟨k, hk, rfl, hb, hn⟩ := hrel
    by_cases hlt : k < l.length
    · obtain ⟨b, off, rfl, hbB, hc⟩ := hs.int hlt
      have c0 : wr.cell? ⟨b, off + k, none⟩ = some (.int .i64 l[k]) := by rw [hb.cell hbB]; exact hc
      clear hc
      have hcall := hp l[k] wr (hb.mono hB)
      have htk := Lib.hid (List.take_succ_eq_append_getElem hlt)
      clear hp
      cases hq : p l[k] with
      | true =>
        have hq' := Lib.hid hq
        rw [hq] at hcall
        have hcall := Lib.hid hcall
        clear hq
        go_wp2_with (go_at_fn g; refine hcall.out.mono ?_; rintro e w1 ⟨rfl, hb1⟩)
        go_ret
        refine ⟨⟨k, rfl, .inr ⟨k, rfl, hlt, ?_⟩⟩, hb.trans (hb1.mono hb.size)⟩
        rw [htk.out, List.filter_append, filter_all hn.out]
        simp [hq'.out]
      | false =>
        have hq' := Lib.hid hq
        rw [hq] at hcall
        have hcall := Lib.hid hcall
        clear hq
        go_wp2_with (go_at_fn g; refine hcall.out.mono ?_; rintro e w1 ⟨rfl, hb1⟩)
        go_roundw
        case rel => exact ⟨k + 1, by omega, by go_num, hb.trans (hb1.mono hb.size), (show ∀ x ∈ l.take (k + 1), p x = false from fun x hx => by
          rw [htk.out] at hx
          rcases List.mem_append.1 hx with h | h
          · exact hn.out x h
          · rw [List.mem_singleton.1 h]; exact hq'.out)⟩
        case measure => simp [intOf]; omega
    · have : k = l.length := by omega
      subst this
      go_wp2
      go_ret
      refine ⟨⟨-1, rfl, .inl ⟨rfl, filter_all fun x hx => hn.out x (by rw [List.take_length]; exact hx)⟩⟩, hb⟩
/-- the row as it is while elements are deleted -/
def Kept (p : Int → Bool) (l D : List Int) (i j : Nat) : Prop := D.length = l.length ∧ i < j ∧ j ≤ l.length ∧ D.take i = (l.take j).filter (fun x => !p x) ∧ D.drop j = l.drop j
theorem Kept.at_ {p : Int → Bool} {l D : List Int} {i j : Nat} (h : Kept p l D i j) (hj : j < l.length) : ∃ hd : j < D.length, D[j] = l[j] := by
  obtain ⟨h1, h2, h3, h4, h5⟩ := h
  refine ⟨by omega, ?_⟩
  rw [List.drop_eq_getElem_cons (by omega), List.drop_eq_getElem_cons hj] at h5
  exact (List.cons.inj h5).1
theorem Kept.keep {p : Int → Bool} {l D : List Int} {i j : Nat} (h : Kept p l D i j) (hj : j < l.length) (hp : p l[j] = false) : Kept p l (D.set i l[j]) (i + 1) (j + 1) := by
  obtain ⟨h1, h2, h3, h4, h5⟩ := h
  refine ⟨by simpa using h1, by omega, by omega, ?_, ?_⟩
  · rw [List.take_succ_eq_append_getElem (by simp; omega), List.take_succ_eq_append_getElem hj, List.filter_append, ← h4, List.take_set_of_le (by omega)]
    simp [hp]
  · rw [List.drop_set_of_lt (by omega)]
    have := congrArg (List.drop 1) h5
    simpa [List.drop_drop] using this
theorem Kept.skip {p : Int → Bool} {l D : List Int} {i j : Nat} (h : Kept p l D i j) (hj : j < l.length) (hp : p l[j] = true) : Kept p l D i (j + 1) := by
  obtain ⟨h1, h2, h3, h4, h5⟩ := h
  refine ⟨h1, by omega, by omega, ?_, ?_⟩
  · rw [List.take_succ_eq_append_getElem hj, List.filter_append, ← h4]
    simp [hp]
  · have := congrArg (List.drop 1) h5
    simpa [List.drop_drop] using this
set_option maxRecDepth 100000 in
set_option maxHeartbeats 800000 in
theorem deleteFuncI_c (B base : Nat) (A : Option Addr) (c : Nat) (l : List Int) (g : FuncId) (lb : Array Value) (p : Int → Bool) (w : World)
    (eg : ∀ args w, (callFunc g args).run Tryz.prog w = .ok (.enter g args) w) (hp : PredI B g lb p w) (hB : B ≤ base) (hbw : base ≤ w.heap.size) (hl : l.length ≤ 140737488351232) (hO : Own w base 2 1 (.slice A l.length c) (l.map ic)) :
    Calls Tryz.prog 35 #[.slice A l.length c, .func (.func g) #[] lb] w fun e w' => ∃ A', e = .returned (.slice A' (l.filter fun x => !p x).length c) ∧ Own w' base 2 1 (.slice A' (l.filter fun x => !p x).length c) ((l.filter fun x => !p x).map ic) ∧ Below B w w' := by
  have hI := indexFuncI_c B A c l g lb p w eg hp (by omega) hl hO.sl
  have hcap : l.length ≤ c := hO.le_cap
  have hP := Lib.hid hp; clear hp
  by_cases hall : ∀ x ∈ l, p x = false
  · have hI : Hid (Calls Tryz.prog 61 #[.slice A l.length c, .func (.func g) #[] lb] w fun e w' => e = .returned (.int .i64 (-1)) ∧ Below w.heap.size w w') := hI.mono fun e w' ⟨⟨r, he, hr⟩, hb⟩ => by
      rcases hr with ⟨rfl, _⟩ | ⟨k, _, hk, hf⟩
      · exact ⟨he, hb⟩
      · rw [filter_all fun x hx => hall x (List.mem_of_mem_take hx)] at hf
        have := congrArg List.length hf
        simp only [List.length_take] at this
        omega
    have hf := Lib.hid (filter_all hall)
    have hO := Lib.hid hO
    clear hall
    go_enter Tryz.func35, Tryz.ntmps35
    go_wp2_with (go_at_call 61; refine hI.out.mono ?_; rintro e w1 ⟨rfl, hb1⟩)
    go_ret
    rw [hf.out]
    exact ⟨A, rfl, hO.out.below hb1, hb1.mono (by omega)⟩
  · have hI : Hid (Calls Tryz.prog 61 #[.slice A l.length c, .func (.func g) #[] lb] w fun e w' => (∃ k : Nat, e = .returned (.int .i64 k) ∧ k < l.length ∧ (l.take (k + 1)).filter (fun x => !p x) = l.take k) ∧ Below w.heap.size w w') := hI.mono fun e w' ⟨⟨r, he, hr⟩, hb⟩ => by
      rcases hr with ⟨_, hf⟩ | ⟨k, rfl, hk, hf⟩
      · refine absurd (fun x hx => ?_) hall
        have := List.filter_eq_self.1 hf x hx
        simpa using this
      · exact ⟨⟨k, he, hk, hf⟩, hb⟩
    clear hall
    go_enter Tryz.func35, Tryz.ntmps35
    have hO := Lib.hid hO
    go_wp2_with (go_at_call 61; refine hI.out.mono ?_; rintro e w1 ⟨⟨k0, rfl, hk0, hf⟩, hb1⟩; have Hf := Lib.hid hf; clear hf; have hne1 : ((k0 : Int) == -1) = false := beq_eq_false_iff_ne.2 (by omega))
    have hO1 := hO.out.below hb1
    obtain ⟨g0, off, hA, hgB, hcc⟩ := hO1.sl.int hk0
    subst hA
    obtain rfl := hO1.off0 (i := k0) (by simpa using hk0)
    have hge := hO1.block_ge
    have hK : Kept p l l k0 (k0 + 1) := by
      refine ⟨rfl, by omega, by omega, Hf.out.symm, rfl⟩
    have HK := Lib.hid hK
    clear hcc hK
    have hb1' := hb1.mono (show B ≤ w.heap.size by omega)
    go_loopw [5, 6] (fun iv jv wr => ∃ (i j : Nat) (D : List Int), iv = .int .i64 i ∧ jv = .int .i64 j ∧ Hid (Kept p l D i j) ∧ Own wr base 2 1 (.slice (some ⟨g0, 0, none⟩) l.length c) (D.map ic) ∧ Below B w wr ∧ w.heap.size ≤ wr.heap.size) (fun _ jv _ => l.length - (intOf jv).toNat)
    case atStart => exact ⟨k0, k0 + 1, l, rfl, by go_num, HK, hO1, hb1', hb1.size⟩
    case round =>
      obtain ⟨i, j, D, rfl, rfl, hK, hO2, hb2, hsz⟩ := hrel
      clear hO1
      obtain ⟨hD, hij, hjl, hti, hdr⟩ := hK.out
      clear hti hdr
      have hge2 := hO2.block_ge
      by_cases hlt : j < l.length
      · obtain ⟨hd, hat⟩ := hK.out.at_ hlt
        have cj : wr.cell? ⟨g0, j, none⟩ = some (.int .i64 l[j]) := by
          obtain ⟨b, off, he, _, hc⟩ := hO2.sl.int hd
          simp only [Option.some.injEq, Addr.mk.injEq, and_true] at he
          obtain ⟨rfl, rfl⟩ := he
          rw [hat, Nat.zero_add] at hc; exact hc
        clear hat hd
        have hcall := hP.out l[j] wr hb2
        have hDl := Lib.hid hD
        clear hD
        cases hq : p l[j] with
        | false =>
          have hq' := Lib.hid hq
          have hK2 := Lib.hid (hK.out.keep hlt hq)
          rw [hq] at hcall
          have hcall := Lib.hid hcall
          clear hq
          generalize l[j] = u at *
          go_wp2_with (go_at_fn g; refine hcall.out.mono ?_; rintro e w3 ⟨rfl, hb3⟩; have hO3 := hO2.below hb3; have ⟨vi, ci⟩ := hO3.cell (i := i) (j := 0) (by have := hDl.out; simp; omega) (by omega); have fi := hO3.frozen i; simp only [Nat.mul_one, Nat.add_zero] at ci)
          have hst := hO3.store (i := i) (by have := hDl.out; simp; omega) (ic u) rfl
          rw [← List.map_set] at hst
          have hst : Own (w3.setCell ⟨g0, i, none⟩ (.int .i64 u)) base 2 1 (.slice (some ⟨g0, 0, none⟩) l.length c) ((D.set i u).map ic) := by simpa [stores, ic] using hst
          go_roundw
          case rel => exact ⟨i + 1, j + 1, D.set i u, by go_num, by go_num, hK2, hst, (hb2.trans (hb3.mono (by omega))).setCell (by simp; omega) _, by have := hb3.size; simp; omega⟩
          case measure => simp [intOf]; omega
        | true =>
          have hK2 := Lib.hid (hK.out.skip hlt hq)
          rw [hq] at hcall
          have hcall := Lib.hid hcall
          clear hq
          go_wp2_with (go_at_fn g; refine hcall.out.mono ?_; rintro e w3 ⟨rfl, hb3⟩)
          go_roundw
          case rel => exact ⟨i, j + 1, D, rfl, by go_num, hK2, hO2.below hb3, hb2.trans (hb3.mono (by omega)), by have := hb3.size; omega⟩
          case measure => simp [intOf]; omega
      · obtain rfl : j = l.length := by omega
        have v0 : ∀ w, (zeroValue 2).run Tryz.prog w = .ok (.int .i64 0) w := fun _ => by kernel_rfl
        have hcl : ∀ ty, (Builtin.clear_ #[37] ty #[.slice (some ⟨g0, i, none⟩) (l.length - i) (c - i)]).run Tryz.prog wr = .ok (.tuple #[]) (wr.setCells g0 i (List.replicate (l.length - i) (.int .i64 0))) :=
          fun ty => Lib.run_clear_slice wr _ _ ty _ Tryz.underlying37 v0 rfl rfl g0 i _ _ (by omega)
            (fun t ht => by obtain ⟨v, hv⟩ := hO2.cell (i := i + t) (j := 0) (by simp; omega) (by omega); simp only [Nat.mul_one, Nat.add_zero] at hv; rw [hv]; rfl) (fun t _ => hO2.frozen _)
        clear v0
        have hDl := Lib.hid hD
        clear hD
        go_wp2_with fail
        go_ret
        have hK2 := hK.out
        have hfl : D.take i = l.filter fun x => !p x := by rw [hK2.2.2.2.1, List.take_length]
        have hlen : (l.filter fun x => !p x).length = i := by rw [← hfl, List.length_take]; have := hDl.out; omega
        rw [hlen]
        have hcut := hO2.cut (i := i) (by omega) (List.replicate (l.length - i) (.int .i64 0)) (by simp)
        rw [hfl] at hcut
        exact ⟨_, rfl, hcut, by rw [stores_cells]; exact stores_below (by omega) _ _ hb2⟩
end Go.Proofs.YtkjommcmeinkaaaGreat
