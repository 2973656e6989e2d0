/- Lists of exercises: the laws' copies, comparison and size of them. Conditions: the lists' lengths. slices.ContainsFunc at []impl.Exercise; HardestOf of the program and of the reference. Conditions: the lists' lengths. FnExactHardestOf's walk: for every list the law returns true. Conditions: what an argument always is. FnExactHardestOf: for every input the law returns true and leaves its arguments as they were. No condition. -/
import Derived.Test.YtgkobjpoeajkdaaGreatExLaw0
import Derived.Shelf.Abstract
import Derived.Test.YtgkobjpoeajkdaaGreatLawKit
namespace Go.Proofs.YtgkobjpoeajkdaaGreat
open Go.RowKit
/-- an exercise and where its lists lie -/
structure ExR where
  L : Int
  A1 : Option Addr
  c1 : Nat
  l1 : List Int
  A2 : Option Addr
  c2 : Nat
  l2 : List Int
  A3 : Option Addr
  c3 : Nat
  l3 : List Term
  p : Int
  q : Int
  r : Int
def ExR.cells (e : ExR) : List Value := [.int .i64 e.L, .slice e.A1 e.l1.length e.c1, .slice e.A2 e.l2.length e.c2, .slice e.A3 e.l3.length e.c3, .int .i64 e.p, .int .i64 e.q, .int .i64 e.r]
/-- the same exercise, elsewhere -/
def ExR.as (e : ExR) (B1 : Option Addr) (d1 : Nat) (B2 : Option Addr) (d2 : Nat) (B3 : Option Addr) (d3 : Nat) : ExR := ⟨e.L, B1, d1, e.l1, B2, d2, e.l2, B3, d3, e.l3, e.p, e.q, e.r⟩
def ExR.same (e f : ExR) : Prop := ∃ B1 d1 B2 d2 B3 d3, f = e.as B1 d1 B2 d2 B3 d3
def ExR.In (e : ExR) (w : World) : Prop := ExIn w e.A1 e.c1 e.l1 e.A2 e.c2 e.l2 e.A3 e.c3 e.l3
def ExR.Laid (e : ExR) (w : World) : Prop := ExLaid w e.A1 e.c1 e.l1 e.A2 e.c2 e.l2 e.A3 e.c3 e.l3
def ExR.short (e : ExR) : Prop := e.l1.length ≤ 1048576 ∧ e.l2.length ≤ 1048576 ∧ e.l3.length ≤ 1048576
theorem ExLaid.later {w W : World} {A1 : Option Addr} {c1 : Nat} {l1 : List Int} {A2 : Option Addr} {c2 : Nat} {l2 : List Int} {A3 : Option Addr} {c3 : Nat} {l3 : List Term} (E : ExLaid w A1 c1 l1 A2 c2 l2 A3 c3 l3) (hW : Below w.heap.size w W) : ExLaid W A1 c1 l1 A2 c2 l2 A3 c3 l3 :=
  ⟨E.z1, E.z2, E.z3, E.k1, E.k2, E.k3, (E.s1.below hW).more hW.size, (E.s2.below hW).more hW.size, (E.s3.below hW).more hW.size⟩
/-- a list of exercises, as it lies in w -/
structure ExsIn (w : World) (A : Option Addr) (es : List ExR) : Prop where
  n : es.length ≤ 1048576
  s : Sl w w.heap.size 7 A (es.map ExR.cells)
  i : ∀ e ∈ es, e.In w
theorem ExsIn.later {w W : World} {A : Option Addr} {es : List ExR} (h : ExsIn w A es) (hW : Below w.heap.size w W) : ExsIn W A es := ⟨h.n, (h.s.below hW).more hW.size, fun e he => ExIn.later (h.i e he) hW⟩
/-- the two lists hold the same exercises -/
def Sames (es fs : List ExR) : Prop := es.length = fs.length ∧ ∀ (k : Nat) (e f : ExR), es[k]? = some e → fs[k]? = some f → e.same f
/-- the lists lie outside block g -/
def ExR.Far (e : ExR) (g : Nat) : Prop := Off e.A1 g ∧ Off e.A2 g ∧ Off e.A3 g
theorem ExR.In.far {e : ExR} {w : World} {g j : Nat} {u : Value} (h : e.In w) (hf : e.Far g) : e.In (w.setCell ⟨g, j, none⟩ u) := by
  have hz : (w.setCell ⟨g, j, none⟩ u).heap.size = w.heap.size := by simp
  exact ⟨h.h1, h.h2, h.h3, h.k1, h.k2, h.k3, by rw [hz]; exact sl_far h.s1 hf.1, by rw [hz]; exact sl_far h.s2 hf.2.1, by rw [hz]; exact sl_far h.s3 hf.2.2⟩
theorem ExR.In.stores {e : ExR} {g : Nat} (hf : e.Far g) : ∀ (cs : List Value) (p : Nat) {w : World}, e.In w → e.In (stores w g p cs)
  | [], _, _, h => h
  | _ :: vs, p, _, h => ExR.In.stores hf vs (p + 1) (h.far hf)
theorem off_own {w : World} {base : Nat} {e : TypeId} {k g n c : Nat} {A : Option Addr} {xs : List (List Value)} (h : Own w base e k (.slice A n c) xs) (hg : g < base) : Off A g := fun b off hA => by
  subst hA
  have := h.1.lt b rfl
  omega
theorem off_lt {g : Nat} {A : Option Addr} (h : ∀ b off, A = some ⟨b, off, none⟩ → g < b) : Off A g := fun b off hA => by have := h b off hA; omega
set_option maxRecDepth 100000 in
theorem szExS_c (A : Option Addr) (c : Nat) (es : List ExR) (left : Int) (w : World) (hn : es.length ≤ 140737488351232) (hi : ∀ e ∈ es, e.Laid w) (hs : Sl w w.heap.size 7 A (es.map ExR.cells)) (hl : 0 ≤ left ∧ left ≤ 1048576) :
    Calls Tryz.prog 18 #[.slice A es.length c, .int .i64 left] w (SzPost left (es.length ≤ 1048576 ∧ ∀ e ∈ es, e.short) w) := by
  obtain ⟨h1, h2⟩ := hl
  by_cases h : left < es.length
  · have h' : left - es.length < 0 := by omega
    go_enter Tryz.func18, Tryz.ntmps18
    go_wp2
    go_ret
    exact ⟨⟨-1, rfl, .inl (by omega)⟩, Below.refl _ _⟩
  · have h' : ¬ left - es.length < 0 := by omega
    go_enter Tryz.func18, Tryz.ntmps18
    go_wp2_with fail
    go_loopw [1, 5] (fun a i wr => ∃ (k : Nat) (m : Int), k ≤ es.length ∧ i = .int .i64 k ∧ a = .int .i64 m ∧ (0 ≤ m ∧ m ≤ left) ∧ (∀ j (e : ExR), j < k → es[j]? = some e → e.short) ∧ Below w.heap.size w wr) (fun _ i _ => es.length - (intOf i).toNat)
    case atStart => exact ⟨0, _, Nat.zero_le _, rfl, rfl, by omega, fun _ _ h => by omega, Below.refl _ _⟩
    case round =>
      obtain ⟨k, m, hk, rfl, rfl, hm, hsh, hb⟩ := hrel
      have hm1 := hm.1
      have hm2 := hm.2
      have hsh := Lib.hid hsh
      by_cases hlt : k < es.length
      · obtain ⟨b, off, rfl, hbB, hc⟩ := hs.at_ (i := k) (by simpa using hlt)
        simp only [List.getElem_map] at hc
        have c0 : wr.cell? ⟨b, off + k * 7, none⟩ = some (.int .i64 es[k].L) := by rw [hb.cell hbB]; exact hc 0 _ rfl
        have c1 : wr.cell? ⟨b, off + k * 7 + 1, none⟩ = some (.slice es[k].A1 es[k].l1.length es[k].c1) := by rw [hb.cell hbB]; exact hc 1 _ rfl
        have c2 : wr.cell? ⟨b, off + k * 7 + 2, none⟩ = some (.slice es[k].A2 es[k].l2.length es[k].c2) := by rw [hb.cell hbB]; exact hc 2 _ rfl
        have c3 : wr.cell? ⟨b, off + k * 7 + 3, none⟩ = some (.slice es[k].A3 es[k].l3.length es[k].c3) := by rw [hb.cell hbB]; exact hc 3 _ rfl
        have c4 : wr.cell? ⟨b, off + k * 7 + 4, none⟩ = some (.int .i64 es[k].p) := by rw [hb.cell hbB]; exact hc 4 _ rfl
        have c5 : wr.cell? ⟨b, off + k * 7 + 5, none⟩ = some (.int .i64 es[k].q) := by rw [hb.cell hbB]; exact hc 5 _ rfl
        have c6 : wr.cell? ⟨b, off + k * 7 + 6, none⟩ = some (.int .i64 es[k].r) := by rw [hb.cell hbB]; exact hc 6 _ rfl
        clear hc
        have X := ExLaid.later (hi es[k] (List.getElem_mem hlt)) hb
        have HZ := fun W => Lib.hid (szExercise_c es[k].L es[k].A1 es[k].l1.length es[k].c1 es[k].A2 es[k].l2.length es[k].c2 es[k].A3 es[k].l3.length es[k].c3 es[k].p es[k].q es[k].r m W X.z1 X.z2 X.z3 (by omega))
        have HS : Hid (es[k].short → ∀ j (e : ExR), j < k + 1 → es[j]? = some e → e.short) := fun hx j e hj he => by
          by_cases hjk : j < k
          · exact hsh.out j e hjk he
          · obtain rfl : j = k := by omega
            rw [List.getElem?_eq_getElem hlt] at he
            cases he
            exact hx
        clear hi X hs hsh
        generalize es[k] = ek at *
        obtain ⟨L, A1, d1, l1, A2, d2, l2, A3, d3, l3, p, q, r⟩ := ek
        simp only at *
        go_wp2_with (go_at_call 13; refine Calls.mono (HZ _).out ?_; rintro e w1 ⟨⟨v, rfl, hv⟩, hb1⟩; rcases hv with hv | ⟨hv0, hvl, hlen⟩)
        · go_wp2
          go_ret
          exact ⟨⟨-1, rfl, .inl (by omega)⟩, hb.trans (hb1.mono hb.size)⟩
        · have hvn : ¬ v < 0 := by omega
          go_wp2
          go_roundw
          case rel => exact ⟨k + 1, v, by omega, by go_num, rfl, by omega, HS.out hlen, hb.trans (hb1.mono hb.size)⟩
          case measure => simp [intOf]; omega
      · have : k = es.length := by omega
        subst this
        go_wp2
        go_ret
        exact ⟨⟨m, rfl, .inr ⟨by omega, by omega, by omega, fun e he => by
          obtain ⟨j, hj, rfl⟩ := List.getElem_of_mem he
          exact hsh.out j _ hj (List.getElem?_eq_getElem hj)⟩⟩, hb⟩
theorem info_Exercise : (Tryz.prog.info? 36).map (fun i => (i.zero, i.size, i.bytes)) = some (some (.agg #[Value.int .i64 0, .slice none 0 0, .slice none 0 0, .slice none 0 0, .int .i64 0, .int .i64 0, .int .i64 0]), 7, 104) := by kernel_rfl
/-- copies so far: k of them, in block g -/
structure CopyS (w : World) (es : List ExR) (g k : Nat) (fs : List ExR) (wr : World) : Prop where
  hb : Below w.heap.size w wr
  fk : fs.length = k
  o : Own wr w.heap.size 36 7 (.slice (some ⟨g, 0, none⟩) es.length es.length) (fs.map ExR.cells ++ List.replicate (es.length - k) [Value.int .i64 0, .slice none 0 0, .slice none 0 0, .slice none 0 0, .int .i64 0, .int .i64 0, .int .i64 0])
  i : ∀ f ∈ fs, f.In wr ∧ f.Far g
  s : ∀ (j : Nat) (e f : ExR), es[j]? = some e → fs[j]? = some f → e.same f
theorem rows_put {xs : List (List Value)} {z x : List Value} {k n : Nat} (hk : xs.length = k) (hn : k < n) : (xs ++ List.replicate (n - k) z).set k x = (xs ++ [x]) ++ List.replicate (n - (k + 1)) z := by
  subst hk
  rw [List.set_append_right _ _ (Nat.le_refl _), Nat.sub_self]
  obtain ⟨m, hm⟩ : ∃ m, n - xs.length = m + 1 := ⟨n - xs.length - 1, by omega⟩
  rw [hm, show n - (xs.length + 1) = m from by omega, List.replicate_succ, List.set_cons_zero]
  simp
/-- the copy made, stored -/
theorem CopyS.next {w : World} {es : List ExR} {g k : Nat} {fs : List ExR} {w2 : World} (h : CopyS w es g k fs w2) {e f : ExR} (he : es[k]? = some e) (hf : e.same f) (hi : f.In w2) (hff : f.Far g) (hg : w.heap.size ≤ g) :
    CopyS w es g (k + 1) (fs ++ [f]) (stores w2 g (k * 7) f.cells) := by
  have hlt : k < es.length := (List.getElem?_eq_some_iff.1 he).1
  refine ⟨stores_below hg f.cells (k * 7) h.hb, by simp [h.fk], ?_, fun x hx => ?_, fun j e' f' he' hf' => ?_⟩
  · have h' := h.o.store (i := k) (by simp [h.fk]; omega) f.cells rfl
    rw [rows_put (by simp [h.fk]) hlt] at h'
    rw [List.map_append]
    exact h'
  · rcases List.mem_append.1 hx with hx | hx
    · exact ⟨ExR.In.stores (h.i x hx).2 _ _ (h.i x hx).1, (h.i x hx).2⟩
    · obtain rfl : x = f := by simpa using hx
      exact ⟨ExR.In.stores hff _ _ hi, hff⟩
  · by_cases hj : j < k
    · rw [List.getElem?_append_left (by rw [h.fk]; exact hj)] at hf'
      exact h.s j e' f' he' hf'
    · have hjl : j < (fs ++ [f]).length := (List.getElem?_eq_some_iff.1 hf').1
      simp [h.fk] at hjl
      obtain rfl : j = k := by omega
      rw [he] at he'
      cases he'
      rw [List.getElem?_append_right (by rw [h.fk]; exact Nat.le_refl _), h.fk] at hf'
      simp at hf'
      subst hf'
      exact hf
/-- what a copy of a list of exercises is -/
def ExsCopy (es : List ExR) (v : Value) (w' : World) (base : Nat) : Prop := ∃ A' c' fs, v = .slice A' es.length c' ∧ fs.length = es.length ∧ Sames es fs ∧ es.length ≤ c' ∧ ExsIn w' A' fs ∧ Own w' base 36 7 (.slice A' es.length c') (fs.map ExR.cells)
theorem ExsCopy.below {es : List ExR} {v : Value} {w w' : World} {base : Nat} (h : ExsCopy es v w base) (hb : Below w.heap.size w w') : ExsCopy es v w' base := by
  obtain ⟨A', c', fs, h1, h2, h3, h4, h5, h6⟩ := h
  exact ⟨A', c', fs, h1, h2, h3, h4, h5.later hb, h6.below hb⟩
theorem ExsCopy.weak {es : List ExR} {v : Value} {w : World} {base base' : Nat} (h : ExsCopy es v w base) (hb : base' ≤ base) : ExsCopy es v w base' := by
  obtain ⟨A', c', fs, h1, h2, h3, h4, h5, h6⟩ := h
  exact ⟨A', c', fs, h1, h2, h3, h4, h5, h6.mono hb⟩
set_option maxRecDepth 100000 in
theorem toExS_c (A : Option Addr) (c : Nat) (es : List ExR) (w : World) (E : ExsIn w A es) :
    Calls Tryz.prog 20 #[.slice A es.length c] w fun e w' => (∃ v, e = .returned v ∧ ExsCopy es v w' w.heap.size) ∧ Below w.heap.size w w' := by
  obtain ⟨i0, hi, hz0, hz1, hz2⟩ := info_parts info_Exercise
  have hl := E.n
  have hs := E.s
  have hin := Lib.hid E.i
  go_enter Tryz.func20, Tryz.ntmps20
  go_wp2_with (refine wpList_make_full _ rfl (.tmp 6) (.tmp 6) 44 rfl w.heap.size 36 i0 _ 7 Tryz.underlying44 hi hz0 hz1 .i64 .i64 _ _ es.length rfl rfl rfl rfl (by rw [hz2]; omega) (by unfold maxLen; omega) (Nat.le_refl _) ?_; intro w1 hown hg)
  have hb1 : Below w.heap.size w w1 := (Below.refl _ _).grown hg (Nat.le_refl _) (fun k h => by cases h)
  have hO : CopyS w es w.heap.size 0 [] w1 := by
    refine ⟨hb1, rfl, ⟨?_, by simp⟩, by simp, by simp⟩
    rw [made_rows _ 7 _ rfl (by omega)] at hown
    simpa [Value.cells] using hown
  clear hown hg hb1
  generalize hgs : w.heap.size = g at hO ⊢
  rw [hgs] at hs
  go_loopw [4] (fun i wr => ∃ (k : Nat) (fs : List ExR), k ≤ es.length ∧ i = .int .i64 k ∧ CopyS w es g k fs wr) (fun i _ => es.length - (intOf i).toNat)
  case atStart => exact ⟨0, [], Nat.zero_le _, rfl, hO⟩
  case round =>
    obtain ⟨k, fs, hk, rfl, hO⟩ := hrel
    by_cases hlt : k < es.length
    · have hb := hO.hb
      obtain ⟨b, off, rfl, hbB, hc⟩ := hs.at_ (i := k) (by simpa using hlt)
      simp only [List.getElem_map] at hc
      rw [← hgs] at hbB
      have c0 : wr.cell? ⟨b, off + k * 7, none⟩ = some (.int .i64 es[k].L) := by rw [hb.cell hbB]; exact hc 0 _ rfl
      have c1 : wr.cell? ⟨b, off + k * 7 + 1, none⟩ = some (.slice es[k].A1 es[k].l1.length es[k].c1) := by rw [hb.cell hbB]; exact hc 1 _ rfl
      have c2 : wr.cell? ⟨b, off + k * 7 + 2, none⟩ = some (.slice es[k].A2 es[k].l2.length es[k].c2) := by rw [hb.cell hbB]; exact hc 2 _ rfl
      have c3 : wr.cell? ⟨b, off + k * 7 + 3, none⟩ = some (.slice es[k].A3 es[k].l3.length es[k].c3) := by rw [hb.cell hbB]; exact hc 3 _ rfl
      have c4 : wr.cell? ⟨b, off + k * 7 + 4, none⟩ = some (.int .i64 es[k].p) := by rw [hb.cell hbB]; exact hc 4 _ rfl
      have c5 : wr.cell? ⟨b, off + k * 7 + 5, none⟩ = some (.int .i64 es[k].q) := by rw [hb.cell hbB]; exact hc 5 _ rfl
      have c6 : wr.cell? ⟨b, off + k * 7 + 6, none⟩ = some (.int .i64 es[k].r) := by rw [hb.cell hbB]; exact hc 6 _ rfl
      clear hc
      have HE : Hid (es[k]? = some es[k]) := List.getElem?_eq_getElem hlt
      have EI := ExIn.later (hin.out es[k] (List.getElem_mem hlt)) hb
      have HT := Lib.hid (toEx_c es[k].L es[k].A1 es[k].c1 es[k].l1 es[k].A2 es[k].c2 es[k].l2 es[k].A3 es[k].c3 es[k].l3 es[k].p es[k].q es[k].r wr EI)
      unfold exAgg at HT
      clear EI
      generalize es[k] = ek at *
      obtain ⟨L, A1, d1, l1, A2, d2, l2, A3, d3, l3, p, q, r⟩ := ek
      simp only at *
      have hgl : g < wr.heap.size := hO.o.block_ge.2
      go_wp2_with (go_at_call 15; refine Calls.mono HT.out ?_; rintro e w2 ⟨⟨v, rfl, B1, e1, B2, e2, B3, e3, rfl, E2, o1, o2, o3⟩, hb2⟩; unfold exAgg; have hO2 : CopyS w es g k fs w2 := (⟨hO.hb.trans (hb2.mono hO.hb.size), hO.fk, hO.o.below hb2, (fun f hf => ⟨ExIn.later (hO.i f hf).1 hb2, (hO.i f hf).2⟩), hO.s⟩); have hkl : k < (fs.map ExR.cells ++ List.replicate (es.length - k) [Value.int .i64 0, .slice none 0 0, .slice none 0 0, .slice none 0 0, .int .i64 0, .int .i64 0, .int .i64 0]).length := (by simp [hO.fk]; omega); obtain ⟨v0, e00⟩ : ∃ v, w2.cell? ⟨g, k * 7, none⟩ = some v := hO2.o.cell (i := k) (j := 0) hkl (by omega); have f0 : w2.frozen? ⟨g, k * 7, none⟩ = false := hO2.o.frozen _; obtain ⟨v1, e01⟩ : ∃ v, w2.cell? ⟨g, k * 7 + 1, none⟩ = some v := hO2.o.cell (i := k) (j := 1) hkl (by omega); have f1 : w2.frozen? ⟨g, k * 7 + 1, none⟩ = false := hO2.o.frozen _; obtain ⟨v2, e02⟩ : ∃ v, w2.cell? ⟨g, k * 7 + 2, none⟩ = some v := hO2.o.cell (i := k) (j := 2) hkl (by omega); have f2 : w2.frozen? ⟨g, k * 7 + 2, none⟩ = false := hO2.o.frozen _; obtain ⟨v3, e03⟩ : ∃ v, w2.cell? ⟨g, k * 7 + 3, none⟩ = some v := hO2.o.cell (i := k) (j := 3) hkl (by omega); have f3 : w2.frozen? ⟨g, k * 7 + 3, none⟩ = false := hO2.o.frozen _; obtain ⟨v4, e04⟩ : ∃ v, w2.cell? ⟨g, k * 7 + 4, none⟩ = some v := hO2.o.cell (i := k) (j := 4) hkl (by omega); have f4 : w2.frozen? ⟨g, k * 7 + 4, none⟩ = false := hO2.o.frozen _; obtain ⟨v5, e05⟩ : ∃ v, w2.cell? ⟨g, k * 7 + 5, none⟩ = some v := hO2.o.cell (i := k) (j := 5) hkl (by omega); have f5 : w2.frozen? ⟨g, k * 7 + 5, none⟩ = false := hO2.o.frozen _; obtain ⟨v6, e06⟩ : ∃ v, w2.cell? ⟨g, k * 7 + 6, none⟩ = some v := hO2.o.cell (i := k) (j := 6) hkl (by omega); have f6 : w2.frozen? ⟨g, k * 7 + 6, none⟩ = false := hO2.o.frozen _)
      go_roundw
      case rel =>
        refine ⟨k + 1, _, by omega, by go_num, hO2.next (f := ⟨L, B1, e1, l1, B2, e2, l2, B3, e3, l3, p, q, r⟩) HE.out ⟨B1, e1, B2, e2, B3, e3, rfl⟩ E2 ⟨off_own o1 hgl, off_own o2 hgl, off_own o3 hgl⟩ (by omega)⟩
      case measure => simp [intOf]; omega
    · have : k = es.length := by omega
      subst this
      go_wp2
      go_ret
      have ho := hO.o
      rw [Nat.sub_self, List.replicate_zero, List.append_nil] at ho
      have hb := hO.hb
      subst hgs
      exact ⟨⟨_, rfl, _, _, fs, rfl, hO.fk, ⟨hO.fk.symm, hO.s⟩, Nat.le_refl _, ⟨by rw [hO.fk]; exact hl, ho.sl, fun f hf => (hO.i f hf).1⟩, ho⟩, hb⟩
set_option maxRecDepth 100000 in
theorem eqExS_c (A A' : Option Addr) (c c' : Nat) (es fs : List ExR) (w : World) (E : ExsIn w A es) (E' : ExsIn w A' fs) (hE : Sames es fs) :
    Calls Tryz.prog 22 #[.slice A es.length c, .slice A' fs.length c'] w fun e w' => e = .returned (.bool true) ∧ Below w.heap.size w w' := by
  have hl := E.n
  have hl' := E'.n
  have hs := E.s
  have hs' := E'.s
  have hlen : es.length = fs.length := hE.1
  rw [← hlen]
  have hin := Lib.hid E.i
  have hin' := Lib.hid E'.i
  have hsame := Lib.hid hE.2
  rw [← hlen] at hl'
  have HL := Lib.hid hlen
  clear hlen hE E E'
  go_enter Tryz.func22, Tryz.ntmps22
  go_wp2_with fail
  go_loopw [5] (fun i wr => ∃ k : Nat, k ≤ es.length ∧ i = .int .i64 k ∧ Below w.heap.size w wr) (fun i _ => es.length - (intOf i).toNat)
  case atStart => exact ⟨0, Nat.zero_le _, rfl, Below.refl _ _⟩
  case round =>
    obtain ⟨k, hk, rfl, hb⟩ := hrel
    by_cases hlt : k < es.length
    · have hltf : k < fs.length := by have := HL.out; omega
      obtain ⟨b, off, rfl, hbB, hc⟩ := hs.at_ (i := k) (by simpa using hlt)
      obtain ⟨b', off', rfl, hbB', hc'⟩ := hs'.at_ (i := k) (by simpa using hltf)
      simp only [List.getElem_map] at hc hc'
      have HC : ∀ (v : World), Below wr.heap.size wr v → ∀ j u, es[k].cells[j]? = some u → v.cell? ⟨b, off + k * 7 + j, none⟩ = some u := fun v hv j u h => by rw [hv.cell (Nat.lt_of_lt_of_le hbB hb.size), hb.cell hbB]; exact hc j u h
      have HC' : ∀ (v : World), Below wr.heap.size wr v → ∀ j u, fs[k].cells[j]? = some u → v.cell? ⟨b', off' + k * 7 + j, none⟩ = some u := fun v hv j u h => by rw [hv.cell (Nat.lt_of_lt_of_le hbB' hb.size), hb.cell hbB']; exact hc' j u h
      clear hc hc'
      have I1 : es[k].In wr := ExIn.later (hin.out es[k] (List.getElem_mem hlt)) hb
      have I2 : fs[k].In wr := ExIn.later (hin'.out fs[k] (List.getElem_mem hltf)) hb
      have hsm := hsame.out k _ _ (List.getElem?_eq_getElem hlt) (List.getElem?_eq_getElem hltf)
      generalize es[k] = ek at *
      generalize fs[k] = fk at *
      obtain ⟨B1, d1, B2, d2, B3, d3, rfl⟩ := hsm
      obtain ⟨L, A1, c1, l1, A2, c2, l2, A3, c3, l3, p, q, r⟩ := ek
      clear hltf
      have HC := Lib.hid HC
      have HC' := Lib.hid HC'
      have I1 := Lib.hid I1
      have I2 := Lib.hid I2
      go_wp2_with fail
      refine wp_region_sink 9 (fun a0 fL bA v => ∃ v17 v18 v19 v20 v21 v22 v23 v24 v25 : Value, bA = ((((((((a0.put (some 17) v17).put (some 18) v18).put (some 19) v19).put (some 20) v20).put (some 21) v21).put (some 22) v22).put (some 23) v23).put (some 24) v24).put (some 25) v25 ∧ (Below wr.heap.size wr v) ∧ (fL 0 = true → v17 = .slice (some ⟨b, off, none⟩) es.length c) ∧ (fL 1 = true → v18 = .int .i64 k) ∧ (fL 2 = true → v19 = .pointer (some ⟨b, off + k * 7, none⟩)) ∧ (fL 3 = true → v20 = .agg #[.int .i64 L, .slice A1 l1.length c1, .slice A2 l2.length c2, .slice A3 l3.length c3, .int .i64 p, .int .i64 q, .int .i64 r]) ∧ (fL 4 = true → v21 = .slice (some ⟨b', off', none⟩) es.length c') ∧ (fL 5 = true → v22 = .int .i64 k) ∧ (fL 6 = true → v23 = .pointer (some ⟨b', off' + k * 7, none⟩)) ∧ (fL 7 = true → v24 = .agg #[.int .i64 L, .slice B1 l1.length d1, .slice B2 l2.length d2, .slice B3 l3.length d3, .int .i64 p, .int .i64 q, .int .i64 r]) ∧ (fL 8 = true → v25 = .bool true)) (by kernel_rfl) (by decide +kernel) ?_ ?_ ?_
      · exact ⟨_, _, _, _, _, _, _, _, _, put_more (put_more (put_more (put_more (put_more (put_more (put_more (put_more (put_more (rfl) 17) 18) 19) 20) 21) 22) 23) 24) 25, (Below.refl _ _).drew, nofun, nofun, nofun, nofun, nofun, nofun, nofun, nofun, nofun⟩
      · rintro fL bA v ⟨v17, v18, v19, v20, v21, v22, v23, v24, v25, rfl, hS, q0, q1, q2, q3, q4, q5, q6, q7, q8⟩ i hi hf o ho hall
        simp only [Act.put, List.setIfInBounds_toArray, List.set_cons_zero, List.set_cons_succ]
        have hn : i = 0 ∨ i = 1 ∨ i = 2 ∨ i = 3 ∨ i = 4 ∨ i = 5 ∨ i = 6 ∨ i = 7 ∨ i = 8 := by omega
        clear hi
        rcases hn with rfl | rfl | rfl | rfl | rfl | rfl | rfl | rfl | rfl
        · obtain rfl := Option.some.inj ho
          clear hall ho
          refine wpOp_step rfl (fun K hK => ?_)
          go_simp
          exact hK _ _ ⟨_, _, _, _, _, _, _, _, _, rfl, hS, fun _ => rfl, q1, q2, q3, q4, q5, q6, q7, q8⟩
        · obtain rfl := Option.some.inj ho
          clear hall ho
          refine wpOp_step rfl (fun K hK => ?_)
          go_simp
          exact hK _ _ ⟨_, _, _, _, _, _, _, _, _, rfl, hS, q0, fun _ => rfl, q2, q3, q4, q5, q6, q7, q8⟩
        · obtain rfl := Option.some.inj ho
          obtain rfl := q0 (hall ⟨0, .data⟩ (by simp) rfl)
          obtain rfl := q1 (hall ⟨1, .data⟩ (by simp) rfl)
          clear hall ho
          refine wpOp_step rfl (fun K hK => ?_)
          go_simp
          exact hK _ _ ⟨_, _, _, _, _, _, _, _, _, rfl, hS, fun _ => rfl, fun _ => rfl, fun _ => rfl, q3, q4, q5, q6, q7, q8⟩
        · obtain rfl := Option.some.inj ho
          obtain rfl := q2 (hall ⟨2, .data⟩ (by simp) rfl)
          have y0 : v.cell? ⟨b, off + k * 7, none⟩ = some (.int .i64 L) := HC.out v hS 0 _ rfl
          have y1 : v.cell? ⟨b, off + k * 7 + 1, none⟩ = some (.slice A1 l1.length c1) := HC.out v hS 1 _ rfl
          have y2 : v.cell? ⟨b, off + k * 7 + 2, none⟩ = some (.slice A2 l2.length c2) := HC.out v hS 2 _ rfl
          have y3 : v.cell? ⟨b, off + k * 7 + 3, none⟩ = some (.slice A3 l3.length c3) := HC.out v hS 3 _ rfl
          have y4 : v.cell? ⟨b, off + k * 7 + 4, none⟩ = some (.int .i64 p) := HC.out v hS 4 _ rfl
          have y5 : v.cell? ⟨b, off + k * 7 + 5, none⟩ = some (.int .i64 q) := HC.out v hS 5 _ rfl
          have y6 : v.cell? ⟨b, off + k * 7 + 6, none⟩ = some (.int .i64 r) := HC.out v hS 6 _ rfl
          clear hall ho
          refine wpOp_step rfl (fun K hK => ?_)
          go_simp
          exact hK _ _ ⟨_, _, _, _, _, _, _, _, _, rfl, hS, q0, q1, fun _ => rfl, fun _ => rfl, q4, q5, q6, q7, q8⟩
        · obtain rfl := Option.some.inj ho
          clear hall ho
          refine wpOp_step rfl (fun K hK => ?_)
          go_simp
          exact hK _ _ ⟨_, _, _, _, _, _, _, _, _, rfl, hS, q0, q1, q2, q3, fun _ => rfl, q5, q6, q7, q8⟩
        · obtain rfl := Option.some.inj ho
          clear hall ho
          refine wpOp_step rfl (fun K hK => ?_)
          go_simp
          exact hK _ _ ⟨_, _, _, _, _, _, _, _, _, rfl, hS, q0, q1, q2, q3, q4, fun _ => rfl, q6, q7, q8⟩
        · obtain rfl := Option.some.inj ho
          obtain rfl := q4 (hall ⟨4, .data⟩ (by simp) rfl)
          obtain rfl := q5 (hall ⟨5, .data⟩ (by simp) rfl)
          clear hall ho
          refine wpOp_step rfl (fun K hK => ?_)
          go_simp
          exact hK _ _ ⟨_, _, _, _, _, _, _, _, _, rfl, hS, q0, q1, q2, q3, fun _ => rfl, fun _ => rfl, fun _ => rfl, q7, q8⟩
        · obtain rfl := Option.some.inj ho
          obtain rfl := q6 (hall ⟨6, .data⟩ (by simp) rfl)
          have y0 : v.cell? ⟨b', off' + k * 7, none⟩ = some (.int .i64 L) := HC'.out v hS 0 _ rfl
          have y1 : v.cell? ⟨b', off' + k * 7 + 1, none⟩ = some (.slice B1 l1.length d1) := HC'.out v hS 1 _ rfl
          have y2 : v.cell? ⟨b', off' + k * 7 + 2, none⟩ = some (.slice B2 l2.length d2) := HC'.out v hS 2 _ rfl
          have y3 : v.cell? ⟨b', off' + k * 7 + 3, none⟩ = some (.slice B3 l3.length d3) := HC'.out v hS 3 _ rfl
          have y4 : v.cell? ⟨b', off' + k * 7 + 4, none⟩ = some (.int .i64 p) := HC'.out v hS 4 _ rfl
          have y5 : v.cell? ⟨b', off' + k * 7 + 5, none⟩ = some (.int .i64 q) := HC'.out v hS 5 _ rfl
          have y6 : v.cell? ⟨b', off' + k * 7 + 6, none⟩ = some (.int .i64 r) := HC'.out v hS 6 _ rfl
          clear hall ho
          refine wpOp_step rfl (fun K hK => ?_)
          go_simp
          exact hK _ _ ⟨_, _, _, _, _, _, _, _, _, rfl, hS, q0, q1, q2, q3, q4, q5, fun _ => rfl, fun _ => rfl, q8⟩
        · obtain rfl := Option.some.inj ho
          obtain rfl := q3 (hall ⟨3, .data⟩ (by simp) rfl)
          obtain rfl := q7 (hall ⟨7, .data⟩ (by simp) rfl)
          clear hall ho
          refine wpOp_step rfl (fun K hK => ?_)
          go_simp
          refine Calls.mono (eqEx_c L A1 c1 B1 d1 l1 A2 c2 B2 d2 l2 A3 c3 B3 d3 l3 p q r v (ExIn.later I1.out hS) (ExIn.later I2.out hS)) ?_; rintro e w1 ⟨rfl, hb1⟩
          go_simp
          exact hK _ _ ⟨_, _, _, _, _, _, _, _, _, rfl, hS.trans (hb1.mono hS.size), q0, q1, q2, fun _ => rfl, q4, q5, q6, fun _ => rfl, fun _ => rfl⟩
      · rintro fL bA v ⟨v17, v18, v19, v20, v21, v22, v23, v24, v25, rfl, hS, q0, q1, q2, q3, q4, q5, q6, q7, q8⟩ hall
        simp only [Act.put, List.setIfInBounds_toArray, List.set_cons_zero, List.set_cons_succ]
        obtain rfl := q0 (hall 0 (by omega))
        obtain rfl := q1 (hall 1 (by omega))
        obtain rfl := q2 (hall 2 (by omega))
        obtain rfl := q3 (hall 3 (by omega))
        obtain rfl := q4 (hall 4 (by omega))
        obtain rfl := q5 (hall 5 (by omega))
        obtain rfl := q6 (hall 6 (by omega))
        obtain rfl := q7 (hall 7 (by omega))
        obtain rfl := q8 (hall 8 (by omega))
        clear hall
        simp only [List.drop_succ_cons, List.drop_zero]
        have hbv := hb.trans (hS.mono hb.size)
        go_wp2
        go_roundw
        case rel => exact ⟨k + 1, by omega, by go_num, (by repeat (first | with_reducible exact hbv | with_reducible apply below_drewN' | with_reducible apply Below.drew | (with_reducible refine Below.alloc ?_ (by first | omega | (simp; omega) | simp) _) | (with_reducible refine Below.setCell ?_ (by first | omega | (simp; omega) | simp) _) | exact hbv))⟩
        case measure => simp [intOf]; omega
    · have : k = es.length := by omega
      subst this
      go_wp2
      go_ret
      exact ⟨rfl, hb⟩
end Go.Proofs.YtgkobjpoeajkdaaGreat
namespace Go.Proofs.YtgkobjpoeajkdaaGreat
open Go.RowKit
/-- the function value computes o in every world that keeps all that lies in w, at the exercises of a list -/
def PredEx (g : FuncId) (lb : Array Value) (o : ExR → Bool) (es : List ExR) (w : World) : Prop :=
  ∀ (x : ExR) (W : World), x ∈ es → Below w.heap.size w W → Calls Tryz.prog g (#[exAgg x.L x.A1 x.l1.length x.c1 x.A2 x.l2.length x.c2 x.A3 x.l3.length x.c3 x.p x.q x.r] ++ lb) W fun e w' => e = .returned (.bool (o x)) ∧ Below W.heap.size W w'
def IdxPostEx (o : ExR → Bool) (l : List ExR) (w : World) (e : Ending) (w' : World) : Prop :=
  ∃ r : Int, e = .returned (.int .i64 r) ∧ decide (0 ≤ r) = l.any o ∧ Below w.heap.size w w'
set_option maxRecDepth 100000 in
theorem indexFuncEx_c (A : Option Addr) (c : Nat) (l : List ExR) (g : FuncId) (lb : Array Value) (o : ExR → Bool) (w : World)
    (eg : ∀ args w, (callFunc g args).run Tryz.prog w = .ok (.enter g args) w) (hp : PredEx g lb o l w) (E : ExsIn w A l) :
    Calls Tryz.prog 122 #[.slice A l.length c, .func (.func g) #[] lb] w (IdxPostEx o l w) := by
  have hl := E.n
  have hs := E.s
  clear E
  go_enter Tryz.func122, Tryz.ntmps122
  go_wp2_with fail
  go_loopw [8] (fun i wr => ∃ k : Nat, k ≤ l.length ∧ i = .int .i64 k ∧ Below w.heap.size w wr ∧ Hid ((l.take k).any o = false)) (fun i _ => l.length - (intOf i).toNat)
  case atStart => exact ⟨0, Nat.zero_le _, rfl, Below.refl _ _, (show (l.take 0).any o = false from by simp)⟩
  case round =>
    obtain ⟨k, hk, rfl, hb, hn⟩ := hrel
    by_cases hlt : k < l.length
    · obtain ⟨b, off, rfl, hbB, hc⟩ := hs.at_ (i := k) (by simpa using hlt)
      simp only [List.getElem_map] at hc
      have c0 : wr.cell? ⟨b, off + k * 7, none⟩ = some (.int .i64 l[k].L) := by rw [hb.cell hbB]; exact hc 0 _ rfl
      have c1 : wr.cell? ⟨b, off + k * 7 + 1, none⟩ = some (.slice l[k].A1 l[k].l1.length l[k].c1) := by rw [hb.cell hbB]; exact hc 1 _ rfl
      have c2 : wr.cell? ⟨b, off + k * 7 + 2, none⟩ = some (.slice l[k].A2 l[k].l2.length l[k].c2) := by rw [hb.cell hbB]; exact hc 2 _ rfl
      have c3 : wr.cell? ⟨b, off + k * 7 + 3, none⟩ = some (.slice l[k].A3 l[k].l3.length l[k].c3) := by rw [hb.cell hbB]; exact hc 3 _ rfl
      have c4 : wr.cell? ⟨b, off + k * 7 + 4, none⟩ = some (.int .i64 l[k].p) := by rw [hb.cell hbB]; exact hc 4 _ rfl
      have c5 : wr.cell? ⟨b, off + k * 7 + 5, none⟩ = some (.int .i64 l[k].q) := by rw [hb.cell hbB]; exact hc 5 _ rfl
      have c6 : wr.cell? ⟨b, off + k * 7 + 6, none⟩ = some (.int .i64 l[k].r) := by rw [hb.cell hbB]; exact hc 6 _ rfl
      clear hc
      have hcall := hp l[k] wr (List.getElem_mem hlt) hb
      unfold exAgg at hcall
      have hnx : (l.take (k + 1)).any o = ((l.take k).any o || o l[k]) := by rw [List.take_succ_eq_append_getElem hlt, List.any_append]; simp
      have hnx := Lib.hid hnx
      have hmem : Hid (l[k] ∈ l) := List.getElem_mem hlt
      clear hp
      generalize l[k] = ek at *
      cases hq : o ek with
      | true =>
        have hq' := Lib.hid hq
        rw [hq] at hcall
        have hcall := Lib.hid hcall
        clear hq
        go_wp2_with (go_at_fn g; refine hcall.out.mono ?_; rintro e w1 ⟨rfl, hb1⟩)
        go_ret
        refine ⟨k, rfl, ?_, hb.trans (hb1.mono hb.size)⟩
        rw [show l.any o = true from List.any_eq_true.2 ⟨ek, hmem.out, hq'.out⟩]
        simp
      | false =>
        have hq' := Lib.hid hq
        rw [hq] at hcall
        have hcall := Lib.hid hcall
        clear hq
        go_wp2_with (go_at_fn g; refine hcall.out.mono ?_; rintro e w1 ⟨rfl, hb1⟩)
        go_roundw
        case rel => exact ⟨k + 1, by omega, by go_num, hb.trans (hb1.mono hb.size), (show _ = false from by rw [hnx.out, hn.out, hq'.out]; rfl)⟩
        case measure => simp [intOf]; omega
    · have : k = l.length := by omega
      subst this
      go_wp2
      go_ret
      refine ⟨-1, rfl, ?_, hb⟩
      have := hn.out
      rw [List.take_length] at this
      rw [this]
      rfl
theorem containsFuncEx_c (A : Option Addr) (c : Nat) (l : List ExR) (g : FuncId) (lb : Array Value) (o : ExR → Bool) (w : World)
    (eg : ∀ args w, (callFunc g args).run Tryz.prog w = .ok (.enter g args) w) (hp : PredEx g lb o l w) (E : ExsIn w A l) :
    Calls Tryz.prog 67 #[.slice A l.length c, .func (.func g) #[] lb] w fun e w' => e = .returned (.bool (l.any o)) ∧ Below w.heap.size w w' := by
  have H := Lib.hid (indexFuncEx_c A c l g lb o w eg hp E)
  clear hp E eg
  go_enter Tryz.func67, Tryz.ntmps67
  go_wp2_with fail
  refine H.out.mono ?_
  rintro e w1 ⟨r, rfl, hr, hb⟩
  go_wp2
  go_ret
  exact ⟨rfl, hb⟩
/-- all that HardestOf asks of an exercise -/
def ExR.ok (e : ExR) : Bool := exB e.L e.l1 e.l2 e.l3 e.p e.q e.r
def ExR.key (e : ExR) : Bool × Nat := (e.ok, (usualP e.l3).ms.length)
theorem Sames.keys {es fs : List ExR} (h : Sames es fs) : es.map ExR.key = fs.map ExR.key := by
  apply List.ext_getElem
  · simp [h.1]
  · intro i h1 h2
    simp at h1 h2 ⊢
    obtain ⟨B1, d1, B2, d2, B3, d3, hf⟩ := h.2 i _ _ (List.getElem?_eq_getElem h1) (List.getElem?_eq_getElem h2)
    rw [hf]
    rfl
/-- the best so far: its place and its moves -/
def bst (K : List (Bool × Nat)) : Nat → Int × Int
  | 0 => (0, -1)
  | k + 1 => match K[k]? with
    | some x => if (bst K k).2 < x.2 then ((k : Int), (x.2 : Int)) else bst K k
    | none => bst K k
def hardCode (K : List (Bool × Nat)) : Int := if K.all (·.1) = true then (if 20 < K.length then 3 else if K.length = 0 then 4 else 0) else 1
def hardIx (K : List (Bool × Nat)) : Int := if hardCode K = 0 then (bst K K.length).1 else 0
theorem bst_next {es : List ExR} {k : Nat} (hk : k < es.length) : bst (es.map ExR.key) (k + 1) = if (bst (es.map ExR.key) k).2 < ((usualP es[k].l3).ms.length : Int) then ((k : Int), ((usualP es[k].l3).ms.length : Int)) else bst (es.map ExR.key) k := by
  conv => lhs; unfold bst
  rw [List.getElem?_eq_getElem (by simpa using hk)]
  simp only [List.getElem_map]
  rfl
theorem bst_bd (K : List (Bool × Nat)) (k : Nat) : 0 ≤ (bst K k).1 ∧ (bst K k).1 ≤ k ∧ -1 ≤ (bst K k).2 := by
  induction k with
  | zero => simp [bst]
  | succ k ih =>
    unfold bst
    split
    · split
      · simp; omega
      · omega
    · omega
theorem keys_all {es : List ExR} : (es.map ExR.key).all (·.1) = es.all ExR.ok := by
  rw [List.all_map]
  rfl
theorem ok_parts {e : ExR} {w : World} (h : e.ok = true) (E : e.In w) : RuleIn w e.A1 e.l1 e.A2 e.l2 ∧ 0 < e.l3.length ∧ e.l3.length ≤ 6 ∧ e.l3.all termOK = true := by
  unfold ExR.ok exB at h
  have hc : exCode e.L e.l1 e.l2 e.l3 e.p e.q e.r = 0 := by simpa using h
  by_cases hb : boundCode e.L e.l1 e.l2 e.l3 e.p e.q e.r = 0
  · obtain ⟨b1, b2, b3, b4, b5⟩ := bound_parts hb
    obtain ⟨k1, k2, k3, k4⟩ := chainB_parts b2
    exact ⟨ExIn.rule E b3 b4, k1, k2, k3⟩
  · rw [(ex_bad hb).2.2] at hc
    exact absurd hc hb
set_option maxRecDepth 100000 in
theorem hardPred (es : List ExR) (w : World) (hi : ∀ e ∈ es, e.In w) : PredEx 68 #[] (fun e => !e.ok) es w := by
  intro x W hx hW
  have HX := fun (W' : World) (h : Below W.heap.size W W') => Lib.hid (implIsExercise_c x.L x.A1 x.c1 x.l1 x.A2 x.c2 x.l2 x.A3 x.c3 x.l3 x.p x.q x.r W' (ExIn.later (ExIn.later (hi x hx) hW) h))
  clear hi hx hW
  obtain ⟨L, A1, c1, l1, A2, c2, l2, A3, c3, l3, p, q, r⟩ := x
  show Calls _ _ _ _ _
  unfold exAgg ExR.ok
  simp only at HX ⊢
  have hW : Below W.heap.size W (W.alloc (.cells #[.int .i64 L, .slice A1 l1.length c1, .slice A2 l2.length c2, .slice A3 l3.length c3, .int .i64 p, .int .i64 q, .int .i64 r] 36)) := (by repeat (first | with_reducible exact Below.refl _ _ | with_reducible apply below_drewN' | with_reducible apply Below.drew | (with_reducible refine Below.alloc ?_ (by first | omega | (simp; omega) | simp) _) | (with_reducible refine Below.setCell ?_ (by first | omega | (simp; omega) | simp) _) | exact Below.refl _ _))
  generalize exB L l1 l2 l3 p q r = bb at *
  go_enter Tryz.func68, Tryz.ntmps68
  go_wp2_with fail
  generalize W.alloc (.cells #[.int .i64 L, .slice A1 l1.length c1, .slice A2 l2.length c2, .slice A3 l3.length c3, .int .i64 p, .int .i64 q, .int .i64 r] 36) = W1 at *
  refine Calls.mono (HX W1 hW).out ?_; rintro e w1 ⟨rfl, hb1⟩
  have hv := hW.trans (hb1.mono hW.size)
  go_wp2
  go_ret
  exact ⟨rfl, (by repeat (first | with_reducible exact hv | with_reducible apply below_drewN' | with_reducible apply Below.drew | (with_reducible refine Below.alloc ?_ (by first | omega | (simp; omega) | simp) _) | (with_reducible refine Below.setCell ?_ (by first | omega | (simp; omega) | simp) _) | exact hv))⟩
set_option maxRecDepth 100000 in
set_option maxHeartbeats 1000000 in
theorem implHard_c (A : Option Addr) (c : Nat) (es : List ExR) (w : World) (E : ExsIn w A es) :
    Calls Tryz.prog 21 #[.slice A es.length c] w fun e w' => e = .returned (.tuple #[.int .i64 (hardIx (es.map ExR.key)), .int .i64 (hardCode (es.map ExR.key))]) ∧ Below w.heap.size w w' := by
  have hcall := containsFuncEx_c A c es 68 #[] (fun e => !e.ok) w (enters_of Tryz.func68 (by kernel_rfl) rfl) (hardPred es w E.i) E
  have hall : es.any (fun e => !e.ok) = !(es.all ExR.ok) := by rw [List.any_eq_not_all_not]; simp
  rw [hall] at hcall
  have HC := Lib.hid hcall
  clear hcall hall
  have hl := E.n
  cases hok : es.all ExR.ok with
  | false =>
    have hcd : hardCode (es.map ExR.key) = 1 := by unfold hardCode; rw [keys_all, hok]; simp
    have hix : hardIx (es.map ExR.key) = 0 := by unfold hardIx; rw [hcd]; simp
    rw [hcd, hix]
    rw [hok] at HC
    clear hcd hix hok E
    go_enter Tryz.func21, Tryz.ntmps21
    go_wp2_with (go_at_call 67; refine Calls.mono HC.out ?_; rintro e w1 ⟨rfl, hb1⟩)
    refine bodyPost_ret (v := .tuple #[.int .i64 (0), .int .i64 (1)]) (by simp [results, Tryz.results21, go_sem]) rfl ⟨rfl, (by repeat (first | with_reducible exact hb1 | with_reducible apply below_drewN' | with_reducible apply Below.drew | (with_reducible refine Below.alloc ?_ (by first | omega | (simp; omega) | simp) _) | (with_reducible refine Below.setCell ?_ (by first | omega | (simp; omega) | simp) _) | exact hb1))⟩
  | true =>
    have hcd : hardCode (es.map ExR.key) = if 20 < es.length then 3 else if es.length = 0 then 4 else 0 := by unfold hardCode; rw [keys_all, hok]; simp
    have Hok := Lib.hid (fun k (hk : k < es.length) => List.all_eq_true.1 hok es[k] (List.getElem_mem hk))
    rw [hok] at HC
    clear hok
    by_cases h20 : 20 < es.length
    · have h20' : (20 : Int) < es.length := by omega
      rw [if_pos h20] at hcd
      have hix : hardIx (es.map ExR.key) = 0 := by unfold hardIx; rw [hcd]; simp
      rw [hcd, hix]
      clear hcd hix E Hok
      go_enter Tryz.func21, Tryz.ntmps21
      go_wp2_with (go_at_call 67; refine Calls.mono HC.out ?_; rintro e w1 ⟨rfl, hb1⟩)
      refine bodyPost_ret (v := .tuple #[.int .i64 (0), .int .i64 (3)]) (by simp [results, Tryz.results21, go_sem]) rfl ⟨rfl, (by repeat (first | with_reducible exact hb1 | with_reducible apply below_drewN' | with_reducible apply Below.drew | (with_reducible refine Below.alloc ?_ (by first | omega | (simp; omega) | simp) _) | (with_reducible refine Below.setCell ?_ (by first | omega | (simp; omega) | simp) _) | exact hb1))⟩
    · have h20' : ¬ (20 : Int) < es.length := by omega
      have hd20 : decide ((20 : Int) < es.length) = false := by simp; omega
      rw [if_neg h20] at hcd
      by_cases h0 : es.length = 0
      · rw [if_pos h0] at hcd
        have hix : hardIx (es.map ExR.key) = 0 := by unfold hardIx; rw [hcd]; simp
        rw [hcd, hix]
        obtain rfl := List.length_eq_zero_iff.1 h0
        have HC0 := HC.out
        simp only [List.length_nil] at HC0
        have HC := Lib.hid HC0
        clear HC0 hcd hix E Hok h0 h20 h20' hd20 hl
        go_enter Tryz.func21, Tryz.ntmps21
        go_wp2_with (go_at_call 67; refine Calls.mono HC.out ?_; rintro e w1 ⟨rfl, hb1⟩)
        refine bodyPost_ret (v := .tuple #[.int .i64 (0), .int .i64 (4)]) (by simp [results, Tryz.results21, go_sem]) rfl ⟨rfl, (by repeat (first | with_reducible exact hb1 | with_reducible apply below_drewN' | with_reducible apply Below.drew | (with_reducible refine Below.alloc ?_ (by first | omega | (simp; omega) | simp) _) | (with_reducible refine Below.setCell ?_ (by first | omega | (simp; omega) | simp) _) | exact hb1))⟩
      · rw [if_neg h0] at hcd
        have hix : hardIx (es.map ExR.key) = (bst (es.map ExR.key) es.length).1 := by unfold hardIx; rw [hcd]; simp
        rw [hcd, hix]
        have h0' : ¬ (es.length : Int) = 0 := by omega
        have hd0 : ((es.length : Int) == 0) = false := beq_eq_false_iff_ne.2 h0'
        have hs := E.s
        have hin := Lib.hid E.i
        clear hcd hix E
        go_enter Tryz.func21, Tryz.ntmps21
        go_wp2_with (go_at_call 67; refine Calls.mono HC.out ?_; rintro e w1 ⟨rfl, hb1⟩)
        go_loopw [4, 5, 23] (fun bv mv i wr => ∃ k : Nat, k ≤ es.length ∧ i = .int .i64 k ∧ bv = .int .i64 (bst (es.map ExR.key) k).1 ∧ mv = .int .i64 (bst (es.map ExR.key) k).2 ∧ Below w.heap.size w wr) (fun _ _ i _ => es.length - (intOf i).toNat)
        case atStart => exact ⟨0, Nat.zero_le _, rfl, rfl, rfl, hb1⟩
        case round =>
          clear hb1
          obtain ⟨k, hk, rfl, rfl, rfl, hb⟩ := hrel
          by_cases hlt : k < es.length
          · obtain ⟨b, off, rfl, hbB, hc⟩ := hs.at_ (i := k) (by simpa using hlt)
            simp only [List.getElem_map] at hc
            have c0 : wr.cell? ⟨b, off + k * 7, none⟩ = some (.int .i64 es[k].L) := by rw [hb.cell hbB]; exact hc 0 _ rfl
            have c1 : wr.cell? ⟨b, off + k * 7 + 1, none⟩ = some (.slice es[k].A1 es[k].l1.length es[k].c1) := by rw [hb.cell hbB]; exact hc 1 _ rfl
            have c2 : wr.cell? ⟨b, off + k * 7 + 2, none⟩ = some (.slice es[k].A2 es[k].l2.length es[k].c2) := by rw [hb.cell hbB]; exact hc 2 _ rfl
            have c3 : wr.cell? ⟨b, off + k * 7 + 3, none⟩ = some (.slice es[k].A3 es[k].l3.length es[k].c3) := by rw [hb.cell hbB]; exact hc 3 _ rfl
            have c4 : wr.cell? ⟨b, off + k * 7 + 4, none⟩ = some (.int .i64 es[k].p) := by rw [hb.cell hbB]; exact hc 4 _ rfl
            have c5 : wr.cell? ⟨b, off + k * 7 + 5, none⟩ = some (.int .i64 es[k].q) := by rw [hb.cell hbB]; exact hc 5 _ rfl
            have c6 : wr.cell? ⟨b, off + k * 7 + 6, none⟩ = some (.int .i64 es[k].r) := by rw [hb.cell hbB]; exact hc 6 _ rfl
            clear hc
            have EI : es[k].In wr := ExIn.later (hin.out es[k] (List.getElem_mem hlt)) hb
            obtain ⟨R, r1, r2, r3⟩ := ok_parts (Hok.out k hlt) EI
            have HU := fun (W : World) (hW : Below wr.heap.size wr W) => Lib.hid (usualPlan_c es[k].L es[k].A1 es[k].c1 es[k].l1 es[k].A2 es[k].c2 es[k].l2 es[k].A3 es[k].c3 es[k].l3 W (R.later hW) r1 r2 EI.k3 r3 (ExIn.later EI hW).s3)
            have hnx := bst_next hlt
            have hbd := bst_bd (es.map ExR.key) k
            have hms : ((usualP es[k].l3).ms.length : Int) ≤ 19 := by have := (usual_ok r1 r2 r3).2; omega
            clear EI R r1 r2 r3
            generalize bst (es.map ExR.key) k = B at *
            generalize es[k] = ek at *
            obtain ⟨L, A1, d1, l1, A2, d2, l2, A3, d3, l3, p, q, r⟩ := ek
            simp only at *
            generalize (usualP l3).ms = ms at *
            generalize (usualP l3).sh = sh at *
            generalize (usualP l3).cu = cu at *
            obtain ⟨B1, B2⟩ := B
            simp only at *
            have hW : Below wr.heap.size wr (wr.alloc (.cells #[.int .i64 L, .slice A1 l1.length d1, .slice A2 l2.length d2, .slice A3 l3.length d3, .int .i64 p, .int .i64 q, .int .i64 r] 36)) := (by repeat (first | with_reducible exact Below.refl _ _ | with_reducible apply below_drewN' | with_reducible apply Below.drew | (with_reducible refine Below.alloc ?_ (by first | omega | (simp; omega) | simp) _) | (with_reducible refine Below.setCell ?_ (by first | omega | (simp; omega) | simp) _) | exact Below.refl _ _))
            have hcall := HU _ hW
            have hWs := hb.trans (hW.mono hb.size)
            clear HU
            by_cases hm : B2 < (ms.length : Int)
            · rw [if_pos hm] at hnx
              have hnx := Lib.hid hnx
              go_wp2_with (go_at_call 69; refine Calls.mono hcall.out ?_; rintro e w1 ⟨A', c', rfl, _, hb1⟩; have hW1 := hWs.trans (hb1.mono hWs.size))
              go_roundw
              case rel => exact ⟨k + 1, by omega, by go_num, by rw [hnx.out], by rw [hnx.out], hW1.alloc hW1.size _⟩
              case measure => simp [intOf]; omega
            · rw [if_neg hm] at hnx
              have hnx := Lib.hid hnx
              go_wp2_with (go_at_call 69; refine Calls.mono hcall.out ?_; rintro e w1 ⟨A', c', rfl, _, hb1⟩; have hW1 := hWs.trans (hb1.mono hWs.size))
              go_roundw
              case rel => exact ⟨k + 1, by omega, by go_num, by rw [hnx.out], by rw [hnx.out], hW1.alloc hW1.size _⟩
              case measure => simp [intOf]; omega
          · have : k = es.length := by omega
            subst this
            go_wp2
            refine bodyPost_ret (v := .tuple #[.int .i64 ((bst (es.map ExR.key) es.length).1), .int .i64 (0)]) (by simp [results, Tryz.results21, go_sem]) rfl ⟨rfl, (by repeat (first | with_reducible exact hb | with_reducible apply below_drewN' | with_reducible apply Below.drew | (with_reducible refine Below.alloc ?_ (by first | omega | (simp; omega) | simp) _) | (with_reducible refine Below.setCell ?_ (by first | omega | (simp; omega) | simp) _) | exact hb))⟩
set_option maxRecDepth 100000 in
set_option maxHeartbeats 1000000 in
theorem specHard_c (A : Option Addr) (c : Nat) (es : List ExR) (w : World) (E : ExsIn w A es) :
    Calls Tryz.prog 19 #[.slice A es.length c] w fun e w' => e = .returned (.tuple #[.int .i64 (hardIx (es.map ExR.key)), .int .i64 (hardCode (es.map ExR.key))]) ∧ Below w.heap.size w w' := by
  have hl := E.n
  have hs := E.s
  have hin := Lib.hid E.i
  have Hcd : Hid (hardCode (es.map ExR.key) = if es.all ExR.ok = true then (if 20 < es.length then 3 else if es.length = 0 then 4 else 0) else 1) := by unfold hardCode; rw [keys_all]; simp only [List.length_map]; exact trivial
  clear E
  go_enter Tryz.func19, Tryz.ntmps19
  go_wp2_with fail
  go_loopw [4] (fun i wr => ∃ k : Nat, k ≤ es.length ∧ i = .int .i64 k ∧ Below w.heap.size w wr ∧ Hid (∀ j (h : j < es.length), j < k → es[j].ok = true)) (fun i _ => es.length - (intOf i).toNat)
  case atStart => exact ⟨0, Nat.zero_le _, rfl, Below.refl _ _, fun j _ h => by omega⟩
  case round =>
    obtain ⟨k, hk, rfl, hb, hn⟩ := hrel
    by_cases hlt : k < es.length
    · obtain ⟨b, off, rfl, hbB, hc⟩ := hs.at_ (i := k) (by simpa using hlt)
      simp only [List.getElem_map] at hc
      have c0 : wr.cell? ⟨b, off + k * 7, none⟩ = some (.int .i64 es[k].L) := by rw [hb.cell hbB]; exact hc 0 _ rfl
      have c1 : wr.cell? ⟨b, off + k * 7 + 1, none⟩ = some (.slice es[k].A1 es[k].l1.length es[k].c1) := by rw [hb.cell hbB]; exact hc 1 _ rfl
      have c2 : wr.cell? ⟨b, off + k * 7 + 2, none⟩ = some (.slice es[k].A2 es[k].l2.length es[k].c2) := by rw [hb.cell hbB]; exact hc 2 _ rfl
      have c3 : wr.cell? ⟨b, off + k * 7 + 3, none⟩ = some (.slice es[k].A3 es[k].l3.length es[k].c3) := by rw [hb.cell hbB]; exact hc 3 _ rfl
      have c4 : wr.cell? ⟨b, off + k * 7 + 4, none⟩ = some (.int .i64 es[k].p) := by rw [hb.cell hbB]; exact hc 4 _ rfl
      have c5 : wr.cell? ⟨b, off + k * 7 + 5, none⟩ = some (.int .i64 es[k].q) := by rw [hb.cell hbB]; exact hc 5 _ rfl
      have c6 : wr.cell? ⟨b, off + k * 7 + 6, none⟩ = some (.int .i64 es[k].r) := by rw [hb.cell hbB]; exact hc 6 _ rfl
      clear hc
      have hcall := Lib.hid (specIsExercise_c es[k].L es[k].A1 es[k].c1 es[k].l1 es[k].A2 es[k].c2 es[k].l2 es[k].A3 es[k].c3 es[k].l3 es[k].p es[k].q es[k].r wr (ExIn.later (hin.out es[k] (List.getElem_mem hlt)) hb))
      have hm : Hid (∀ b, es[k].ok = b → exB es[k].L es[k].l1 es[k].l2 es[k].l3 es[k].p es[k].q es[k].r = b) := fun b h => h
      cases hq : es[k].ok with
      | false =>
        have hx := hm.out _ hq
        rw [hx] at hcall
        have hcd : hardCode (es.map ExR.key) = 1 := by rw [Hcd.out, if_neg]; intro h; have := List.all_eq_true.1 h _ (List.getElem_mem hlt); rw [hq] at this; cases this
        have hix : hardIx (es.map ExR.key) = 0 := by unfold hardIx; rw [hcd]; simp
        have hcd := Lib.hid hcd
        have hix := Lib.hid hix
        have hcall := Lib.hid hcall
        clear hx hm hq hn Hcd hin
        generalize es[k] = ek at *
        go_wp2_with (go_at_call 14; refine Calls.mono hcall.out ?_; rintro e w1 ⟨rfl, hb1⟩)
        have hbv := hb.trans (hb1.mono hb.size)
        refine bodyPost_ret (v := .tuple #[.int .i64 0, .int .i64 1]) (by simp [results, Tryz.results19, go_sem]) rfl ⟨by rw [hcd.out, hix.out], (by repeat (first | with_reducible exact hbv | with_reducible apply below_drewN' | with_reducible apply Below.drew | (with_reducible refine Below.alloc ?_ (by first | omega | (simp; omega) | simp) _) | (with_reducible refine Below.setCell ?_ (by first | omega | (simp; omega) | simp) _) | exact hbv))⟩
      | true =>
        have hx := hm.out _ hq
        rw [hx] at hcall
        have hnx : Hid (∀ j (h : j < es.length), j < k + 1 → es[j].ok = true) := fun j h hj => by
          by_cases hjk : j < k
          · exact hn.out j h hjk
          · obtain rfl : j = k := by omega
            exact hq
        have hcall := Lib.hid hcall
        clear hx hm hq hn Hcd hin
        generalize es[k] = ek at *
        go_wp2_with (go_at_call 14; refine Calls.mono hcall.out ?_; rintro e w1 ⟨rfl, hb1⟩)
        go_roundw
        case rel => exact ⟨k + 1, by omega, by go_num, hb.trans (hb1.mono hb.size), hnx⟩
        case measure => simp [intOf]; omega
    · have hkl : k = es.length := by omega
      subst hkl
      have Hok : Hid (∀ k (h : k < es.length), es[k].ok = true) := fun j h => hn.out j h h
      clear hn hk hlt
      have hall : es.all ExR.ok = true := List.all_eq_true.2 fun x hx => by
        obtain ⟨j, hj, rfl⟩ := List.getElem_of_mem hx
        exact Hok.out j hj
      have hcd := Hcd.out
      rw [if_pos hall] at hcd
      clear hall Hcd
      by_cases h20 : 20 < es.length
      · have h20' : (20 : Int) < es.length := by omega
        rw [if_pos h20] at hcd
        have hix : hardIx (es.map ExR.key) = 0 := by unfold hardIx; rw [hcd]; simp
        have hcd := Lib.hid hcd
        have hix := Lib.hid hix
        clear Hok hin
        go_wp2
        refine bodyPost_ret (v := .tuple #[.int .i64 0, .int .i64 3]) (by simp [results, Tryz.results19, go_sem]) rfl ⟨by rw [hcd.out, hix.out], (by repeat (first | with_reducible exact hb | with_reducible apply below_drewN' | with_reducible apply Below.drew | (with_reducible refine Below.alloc ?_ (by first | omega | (simp; omega) | simp) _) | (with_reducible refine Below.setCell ?_ (by first | omega | (simp; omega) | simp) _) | exact hb))⟩
      · have h20' : ¬ (20 : Int) < es.length := by omega
        have hd20 : decide ((20 : Int) < es.length) = false := by simp; omega
        rw [if_neg h20] at hcd
        by_cases h0 : es.length = 0
        · rw [if_pos h0] at hcd
          have hix : hardIx (es.map ExR.key) = 0 := by unfold hardIx; rw [hcd]; simp
          have hcd := Lib.hid hcd
          have hix := Lib.hid hix
          obtain rfl := List.length_eq_zero_iff.1 h0
          clear Hok hin h0 h20 h20' hd20 hl
          go_wp2
          refine bodyPost_ret (v := .tuple #[.int .i64 0, .int .i64 4]) (by simp [results, Tryz.results19, go_sem]) rfl ⟨by rw [hcd.out, hix.out], (by repeat (first | with_reducible exact hb | with_reducible apply below_drewN' | with_reducible apply Below.drew | (with_reducible refine Below.alloc ?_ (by first | omega | (simp; omega) | simp) _) | (with_reducible refine Below.setCell ?_ (by first | omega | (simp; omega) | simp) _) | exact hb))⟩
        · rw [if_neg h0] at hcd
          have hix : hardIx (es.map ExR.key) = (bst (es.map ExR.key) es.length).1 := by unfold hardIx; rw [hcd]; simp
          have hcd := Lib.hid hcd
          have hix := Lib.hid hix
          have h0' : ¬ (es.length : Int) = 0 := by omega
          have hd0 : ((es.length : Int) == 0) = false := beq_eq_false_iff_ne.2 h0'
          have hb1 := hb
          clear hb
          go_wp2_with fail
          go_loopw [5, 6, 7] (fun bv mv i wr => ∃ k : Nat, k ≤ es.length ∧ i = .int .i64 k ∧ bv = .int .i64 (bst (es.map ExR.key) k).1 ∧ mv = .int .i64 (bst (es.map ExR.key) k).2 ∧ Below w.heap.size w wr) (fun _ _ i _ => es.length - (intOf i).toNat)
          case atStart => exact ⟨0, Nat.zero_le _, rfl, rfl, rfl, hb1⟩
          case round =>
            clear hb1
            obtain ⟨k, hk, rfl, rfl, rfl, hb⟩ := hrel
            by_cases hlt : k < es.length
            · obtain ⟨b, off, rfl, hbB, hc⟩ := hs.at_ (i := k) (by simpa using hlt)
              simp only [List.getElem_map] at hc
              have HCE : ∀ (v : World), Below wr.heap.size wr v → ∀ j u, es[k].cells[j]? = some u → v.cell? ⟨b, off + k * 7 + j, none⟩ = some u := fun v hv j u h => by rw [hv.cell (Nat.lt_of_lt_of_le hbB hb.size), hb.cell hbB]; exact hc j u h
              clear hc
              have EI : es[k].In wr := ExIn.later (hin.out es[k] (List.getElem_mem hlt)) hb
              obtain ⟨R, r1, r2, r3⟩ := ok_parts (Hok.out k hlt) EI
              have HU := fun (W : World) (hW : Below wr.heap.size wr W) => Lib.hid (l14Usual_c es[k].L es[k].A1 es[k].c1 es[k].l1 es[k].A2 es[k].c2 es[k].l2 es[k].A3 es[k].c3 es[k].l3 W (R.later hW) r1 r2 r3 (ExIn.later EI hW).s3)
              have hnx := bst_next hlt
              have hbd := bst_bd (es.map ExR.key) k
              have hms : ((usualP es[k].l3).ms.length : Int) ≤ 19 := by have := (usual_ok r1 r2 r3).2; omega
              clear EI R r1 r2 r3
              have HCE := Lib.hid HCE
              generalize bst (es.map ExR.key) k = B at *
              generalize es[k] = ek at *
              obtain ⟨L, A1, d1, l1, A2, d2, l2, A3, d3, l3, p, q, r⟩ := ek
              simp only at HU hnx hbd hms HCE
              generalize (usualP l3).ms = ms at *
              obtain ⟨B1, B2⟩ := B
              simp only at hnx hbd
              have HU := Lib.hid HU
              have hnx := Lib.hid hnx
              go_wp2_with fail
              refine wp_region_sink 12 (fun a0 fL bA v => ∃ v33 v34 v35 v36 v37 v38 v39 v40 v41 v42 v43 v44 : Value, bA = (((((((((((a0.put (some 33) v33).put (some 34) v34).put (some 35) v35).put (some 36) v36).put (some 37) v37).put (some 38) v38).put (some 39) v39).put (some 40) v40).put (some 41) v41).put (some 42) v42).put (some 43) v43).put (some 44) v44 ∧ ((Below wr.heap.size wr v) ∧ (fL 10 = true → ∃ A' c', v43 = Value.slice A' ms.length c')) ∧ (fL 0 = true → v33 = .slice (some ⟨b, off, none⟩) es.length c) ∧ (fL 1 = true → v34 = .int .i64 k) ∧ (fL 2 = true → v35 = .pointer (some ⟨b, off + k * 7, none⟩)) ∧ (fL 3 = true → v36 = .pointer (some ⟨b, off + k * 7, none⟩)) ∧ (fL 4 = true → v37 = .agg #[.int .i64 L, .slice A1 l1.length d1, .slice A2 l2.length d2]) ∧ (fL 5 = true → v38 = .slice (some ⟨b, off, none⟩) es.length c) ∧ (fL 6 = true → v39 = .int .i64 k) ∧ (fL 7 = true → v40 = .pointer (some ⟨b, off + k * 7, none⟩)) ∧ (fL 8 = true → v41 = .pointer (some ⟨b, off + k * 7 + 3, none⟩)) ∧ (fL 9 = true → v42 = .slice A3 l3.length d3) ∧ (fL 10 = true → True) ∧ (fL 11 = true → v44 = .int .i64 ms.length)) (by kernel_rfl) (by decide +kernel) ?_ ?_ ?_
              · exact ⟨_, _, _, _, _, _, _, _, _, _, _, _, put_more (put_more (put_more (put_more (put_more (put_more (put_more (put_more (put_more (put_more (put_more (put_more (rfl) 33) 34) 35) 36) 37) 38) 39) 40) 41) 42) 43) 44, ⟨(Below.refl _ _).drew, nofun⟩, nofun, nofun, nofun, nofun, nofun, nofun, nofun, nofun, nofun, nofun, nofun, nofun⟩
              · rintro fL bA v ⟨v33, v34, v35, v36, v37, v38, v39, v40, v41, v42, v43, v44, rfl, hS, q0, q1, q2, q3, q4, q5, q6, q7, q8, q9, q10, q11⟩ i hi hf o ho hall
                simp only [Act.put, List.setIfInBounds_toArray, List.set_cons_zero, List.set_cons_succ]
                have hn : i = 0 ∨ i = 1 ∨ i = 2 ∨ i = 3 ∨ i = 4 ∨ i = 5 ∨ i = 6 ∨ i = 7 ∨ i = 8 ∨ i = 9 ∨ i = 10 ∨ i = 11 := by omega
                clear hi
                rcases hn with rfl | rfl | rfl | rfl | rfl | rfl | rfl | rfl | rfl | rfl | rfl | rfl
                · obtain rfl := Option.some.inj ho
                  clear hall ho
                  refine wpOp_step rfl (fun K hK => ?_)
                  go_simp
                  exact hK _ _ ⟨_, _, _, _, _, _, _, _, _, _, _, _, rfl, hS, fun _ => rfl, q1, q2, q3, q4, q5, q6, q7, q8, q9, fun _ => trivial, q11⟩
                · obtain rfl := Option.some.inj ho
                  clear hall ho
                  refine wpOp_step rfl (fun K hK => ?_)
                  go_simp
                  exact hK _ _ ⟨_, _, _, _, _, _, _, _, _, _, _, _, rfl, hS, q0, fun _ => rfl, q2, q3, q4, q5, q6, q7, q8, q9, fun _ => trivial, q11⟩
                · obtain rfl := Option.some.inj ho
                  obtain rfl := q0 (hall ⟨0, .data⟩ (by simp) rfl)
                  obtain rfl := q1 (hall ⟨1, .data⟩ (by simp) rfl)
                  clear hall ho
                  refine wpOp_step rfl (fun K hK => ?_)
                  go_simp
                  exact hK _ _ ⟨_, _, _, _, _, _, _, _, _, _, _, _, rfl, hS, fun _ => rfl, fun _ => rfl, fun _ => rfl, q3, q4, q5, q6, q7, q8, q9, fun _ => trivial, q11⟩
                · obtain rfl := Option.some.inj ho
                  obtain rfl := q2 (hall ⟨2, .data⟩ (by simp) rfl)
                  clear hall ho
                  refine wpOp_step rfl (fun K hK => ?_)
                  go_simp
                  exact hK _ _ ⟨_, _, _, _, _, _, _, _, _, _, _, _, rfl, hS, q0, q1, fun _ => rfl, fun _ => rfl, q4, q5, q6, q7, q8, q9, fun _ => trivial, q11⟩
                · obtain rfl := Option.some.inj ho
                  obtain rfl := q3 (hall ⟨3, .data⟩ (by simp) rfl)
                  have y0 : v.cell? ⟨b, off + k * 7, none⟩ = some (.int .i64 L) := HCE.out v hS.1 0 _ rfl
                  have y1 : v.cell? ⟨b, off + k * 7 + 1, none⟩ = some (.slice A1 l1.length d1) := HCE.out v hS.1 1 _ rfl
                  have y2 : v.cell? ⟨b, off + k * 7 + 2, none⟩ = some (.slice A2 l2.length d2) := HCE.out v hS.1 2 _ rfl
                  clear hall ho
                  refine wpOp_step rfl (fun K hK => ?_)
                  go_simp
                  exact hK _ _ ⟨_, _, _, _, _, _, _, _, _, _, _, _, rfl, hS, q0, q1, q2, fun _ => rfl, fun _ => rfl, q5, q6, q7, q8, q9, fun _ => trivial, q11⟩
                · obtain rfl := Option.some.inj ho
                  clear hall ho
                  refine wpOp_step rfl (fun K hK => ?_)
                  go_simp
                  exact hK _ _ ⟨_, _, _, _, _, _, _, _, _, _, _, _, rfl, hS, q0, q1, q2, q3, q4, fun _ => rfl, q6, q7, q8, q9, fun _ => trivial, q11⟩
                · obtain rfl := Option.some.inj ho
                  clear hall ho
                  refine wpOp_step rfl (fun K hK => ?_)
                  go_simp
                  exact hK _ _ ⟨_, _, _, _, _, _, _, _, _, _, _, _, rfl, hS, q0, q1, q2, q3, q4, q5, fun _ => rfl, q7, q8, q9, fun _ => trivial, q11⟩
                · obtain rfl := Option.some.inj ho
                  obtain rfl := q5 (hall ⟨5, .data⟩ (by simp) rfl)
                  obtain rfl := q6 (hall ⟨6, .data⟩ (by simp) rfl)
                  clear hall ho
                  refine wpOp_step rfl (fun K hK => ?_)
                  go_simp
                  exact hK _ _ ⟨_, _, _, _, _, _, _, _, _, _, _, _, rfl, hS, q0, q1, q2, q3, q4, fun _ => rfl, fun _ => rfl, fun _ => rfl, q8, q9, fun _ => trivial, q11⟩
                · obtain rfl := Option.some.inj ho
                  obtain rfl := q7 (hall ⟨7, .data⟩ (by simp) rfl)
                  clear hall ho
                  refine wpOp_step rfl (fun K hK => ?_)
                  go_simp
                  exact hK _ _ ⟨_, _, _, _, _, _, _, _, _, _, _, _, rfl, hS, q0, q1, q2, q3, q4, q5, q6, fun _ => rfl, fun _ => rfl, q9, fun _ => trivial, q11⟩
                · obtain rfl := Option.some.inj ho
                  obtain rfl := q8 (hall ⟨8, .data⟩ (by simp) rfl)
                  have y3 : v.cell? ⟨b, off + k * 7 + 3, none⟩ = some (.slice A3 l3.length d3) := HCE.out v hS.1 3 _ rfl
                  clear hall ho
                  refine wpOp_step rfl (fun K hK => ?_)
                  go_simp
                  exact hK _ _ ⟨_, _, _, _, _, _, _, _, _, _, _, _, rfl, hS, q0, q1, q2, q3, q4, q5, q6, q7, fun _ => rfl, fun _ => rfl, fun _ => trivial, q11⟩
                · obtain rfl := Option.some.inj ho
                  obtain rfl := q4 (hall ⟨4, .data⟩ (by simp) rfl)
                  obtain rfl := q9 (hall ⟨9, .data⟩ (by simp) rfl)
                  clear hall ho
                  refine wpOp_step rfl (fun K hK => ?_)
                  go_simp
                  refine Calls.mono (HU.out v hS.1).out ?_; rintro e w1 ⟨A', c', rfl, _, hb1⟩
                  go_simp
                  exact hK _ _ ⟨_, _, _, _, _, _, _, _, _, _, _, _, rfl, ⟨hS.1.trans (hb1.mono hS.1.size), fun _ => ⟨_, _, rfl⟩⟩, q0, q1, q2, q3, fun _ => rfl, q5, q6, q7, q8, fun _ => rfl, fun _ => trivial, q11⟩
                · obtain rfl := Option.some.inj ho
                  have e10 : fL 10 = true := hall ⟨10, .data⟩ (by simp) rfl
                  obtain ⟨A', c', rfl⟩ := hS.2 e10
                  clear hall ho
                  refine wpOp_step rfl (fun K hK => ?_)
                  go_simp
                  exact hK _ _ ⟨_, _, _, _, _, _, _, _, _, _, _, _, rfl, hS, q0, q1, q2, q3, q4, q5, q6, q7, q8, q9, fun _ => trivial, fun _ => rfl⟩
              · rintro fL bA v ⟨v33, v34, v35, v36, v37, v38, v39, v40, v41, v42, v43, v44, rfl, hS, q0, q1, q2, q3, q4, q5, q6, q7, q8, q9, q10, q11⟩ hall
                simp only [Act.put, List.setIfInBounds_toArray, List.set_cons_zero, List.set_cons_succ]
                obtain rfl := q0 (hall 0 (by omega))
                obtain rfl := q1 (hall 1 (by omega))
                obtain rfl := q2 (hall 2 (by omega))
                obtain rfl := q3 (hall 3 (by omega))
                obtain rfl := q4 (hall 4 (by omega))
                obtain rfl := q5 (hall 5 (by omega))
                obtain rfl := q6 (hall 6 (by omega))
                obtain rfl := q7 (hall 7 (by omega))
                obtain rfl := q8 (hall 8 (by omega))
                obtain rfl := q9 (hall 9 (by omega))
                have e10 : fL 10 = true := hall 10 (by omega)
                obtain rfl := q11 (hall 11 (by omega))
                clear hall
                simp only [List.drop_succ_cons, List.drop_zero]
                have hbv := hb.trans (hS.1.mono hb.size)
                have hnx := hnx.out
                by_cases hm : B2 < (ms.length : Int)
                · rw [if_pos hm] at hnx
                  have hnx := Lib.hid hnx
                  go_wp2
                  go_roundw
                  case rel => exact ⟨k + 1, by omega, by go_num, by rw [hnx.out], by rw [hnx.out], (by repeat (first | with_reducible exact hbv | with_reducible apply below_drewN' | with_reducible apply Below.drew | (with_reducible refine Below.alloc ?_ (by first | omega | (simp; omega) | simp) _) | (with_reducible refine Below.setCell ?_ (by first | omega | (simp; omega) | simp) _) | exact hbv))⟩
                  case measure => simp [intOf]; omega
                · rw [if_neg hm] at hnx
                  have hnx := Lib.hid hnx
                  go_wp2
                  go_roundw
                  case rel => exact ⟨k + 1, by omega, by go_num, by rw [hnx.out], by rw [hnx.out], (by repeat (first | with_reducible exact hbv | with_reducible apply below_drewN' | with_reducible apply Below.drew | (with_reducible refine Below.alloc ?_ (by first | omega | (simp; omega) | simp) _) | (with_reducible refine Below.setCell ?_ (by first | omega | (simp; omega) | simp) _) | exact hbv))⟩
                  case measure => simp [intOf]; omega
            · have : k = es.length := by omega
              subst this
              go_wp2
              refine bodyPost_ret (v := .tuple #[.int .i64 (bst (es.map ExR.key) es.length).1, .int .i64 0]) (by simp [results, Tryz.results19, go_sem]) rfl ⟨by rw [hcd.out, hix.out], (by repeat (first | with_reducible exact hb | with_reducible apply below_drewN' | with_reducible apply Below.drew | (with_reducible refine Below.alloc ?_ (by first | omega | (simp; omega) | simp) _) | (with_reducible refine Below.setCell ?_ (by first | omega | (simp; omega) | simp) _) | exact hb))⟩
end Go.Proofs.YtgkobjpoeajkdaaGreat
namespace Go.Proofs.YtgkobjpoeajkdaaGreat
open Go.RowKit
theorem specHard_k (A : Option Addr) (c : Nat) (es fs : List ExR) (w : World) (E : ExsIn w A fs) (h : Sames es fs) :
    Calls Tryz.prog 19 #[.slice A es.length c] w fun e w' => e = .returned (.tuple #[.int .i64 (hardIx (es.map ExR.key)), .int .i64 (hardCode (es.map ExR.key))]) ∧ Below w.heap.size w w' := by
  have H := specHard_c A c fs w E
  rw [← h.1, ← h.keys] at H
  exact H
theorem implHard_k (A : Option Addr) (c : Nat) (es fs : List ExR) (w : World) (E : ExsIn w A fs) (h : Sames es fs) :
    Calls Tryz.prog 21 #[.slice A es.length c] w fun e w' => e = .returned (.tuple #[.int .i64 (hardIx (es.map ExR.key)), .int .i64 (hardCode (es.map ExR.key))]) ∧ Below w.heap.size w w' := by
  have H := implHard_c A c fs w E
  rw [← h.1, ← h.keys] at H
  exact H
theorem eqExS_k (A A' : Option Addr) (c c' : Nat) (es fs gs : List ExR) (w : World) (E : ExsIn w A fs) (E' : ExsIn w A' gs) (h : Sames es fs) (h' : Sames es gs) :
    Calls Tryz.prog 22 #[.slice A es.length c, .slice A' es.length c'] w fun e w' => e = .returned (.bool true) ∧ Below w.heap.size w w' := by
  have hfg : Sames fs gs := ⟨h.1 ▸ h'.1, fun k f g hf hg => by
    have hk := (List.getElem?_eq_some_iff.1 hf).1
    have he : es[k]? = some (es[k]'(by have := h.1; omega)) := List.getElem?_eq_getElem _
    obtain ⟨B1, d1, B2, d2, B3, d3, rfl⟩ := h.2 k _ _ he hf
    obtain ⟨G1, g1, G2, g2, G3, g3, rfl⟩ := h'.2 k _ _ he hg
    exact ⟨G1, g1, G2, g2, G3, g3, rfl⟩⟩
  have H := eqExS_c A A' c c' fs gs w E E' hfg
  rw [← h.1, ← h'.1] at H
  exact H
set_option maxRecDepth 100000 in
set_option maxHeartbeats 1000000 in
theorem lawHardestOf_c (A : Option Addr) (c : Nat) (es : List ExR) (w : World) (hn : es.length ≤ 140737488351232) (hi : ∀ e ∈ es, e.Laid w) (hs : Sl w w.heap.size 7 A (es.map ExR.cells)) :
    Calls Tryz.prog 4 #[.slice A es.length c] w fun e w' => e = .returned (.bool true) ∧ Below w.heap.size w w' := by
  have HZ := Lib.hid (szExS_c A c es 1048576 w hn hi hs (by omega))
  have HE : Hid ((es.length ≤ 1048576 ∧ ∀ e ∈ es, e.short) → ExsIn w A es) := fun h => ⟨h.1, hs, fun e he => ExLaid.ex (hi e he) (h.2 e he)⟩
  clear hi hs
  go_enter Tryz.func4, Tryz.ntmps4
  go_wp2_with fail
  refine Calls.mono HZ.out ?_; rintro e w1 ⟨⟨v, rfl, hv⟩, hb1⟩
  clear HZ
  rcases hv with hv | ⟨hv0, _, hlen⟩
  · go_wp2
    go_ret
    exact ⟨rfl, (by repeat (first | with_reducible exact hb1 | with_reducible apply below_drewN' | with_reducible apply Below.drew | (with_reducible refine Below.alloc ?_ (by first | omega | (simp; omega) | simp) _) | (with_reducible refine Below.setCell ?_ (by first | omega | (simp; omega) | simp) _) | exact hb1))⟩
  have hvn : ¬ v < 0 := by omega
  have E := HE.out hlen
  have HT := Lib.hid (fun (W : World) (hW : Below w.heap.size w W) => toExS_c A c es W (E.later hW))
  clear hlen HE E
  go_wp2_with fail
  refine Calls.mono (HT.out w1 hb1) ?_; rintro e w2 ⟨⟨v2, rfl, A2, c2, fs, rfl, _, hsame, _, E2, _⟩, hb2⟩
  have hW2 := hb1.trans (hb2.mono hb1.size)
  have hcall := Lib.hid (specHard_k A2 c2 es fs w2 E2 hsame)
  clear hb1 hb2 hsame E2
  go_wp2_with fail
  refine Calls.mono hcall.out ?_; rintro e w3 ⟨rfl, hb3⟩
  have hW3 := hW2.trans (hb3.mono hW2.size)
  clear hcall hW2 hb3
  go_wp2_with fail
  refine Calls.mono (HT.out w3 hW3) ?_; rintro e w4 ⟨⟨v4, rfl, A4, c4, gs, rfl, _, hsame, _, E4, _⟩, hb4⟩
  have hW4 := hW3.trans (hb4.mono hW3.size)
  have hcall := Lib.hid (implHard_k A4 c4 es gs w4 E4 hsame)
  clear hW3 hb4
  generalize hardIx (es.map ExR.key) = hx at *
  generalize hardCode (es.map ExR.key) = hc at *
  have HS := Lib.hid hsame
  clear hsame
  go_wp2_with fail
  refine Calls.mono hcall.out ?_; rintro e w5 ⟨rfl, hb5⟩
  have hW5 := hW4.trans (hb5.mono hW4.size)
  have E5 := E4.later hb5
  clear hcall hW4 hb5 E4
  go_wp2_with fail
  refine Calls.mono (HT.out w5 hW5) ?_; rintro e w6 ⟨⟨v6, rfl, A6, c6, ks, rfl, _, hsame, _, E6, _⟩, hb6⟩
  have hW6 := hW5.trans (hb6.mono hW5.size)
  have hcall := Lib.hid (eqExS_k A4 A6 c4 c6 es gs ks w6 (E5.later hb6) E6 HS.out hsame)
  clear hW5 hb6 E5 E6 hsame
  go_wp2_with fail
  refine Calls.mono hcall.out ?_; rintro e w7 ⟨rfl, hb7⟩
  have hW7 := hW6.trans (hb7.mono hW6.size)
  clear hcall
  go_wp2
  go_ret
  exact ⟨rfl, (by repeat (first | with_reducible exact hW7 | with_reducible apply below_drewN' | with_reducible apply Below.drew | (with_reducible refine Below.alloc ?_ (by first | omega | (simp; omega) | simp) _) | (with_reducible refine Below.setCell ?_ (by first | omega | (simp; omega) | simp) _) | exact hW7))⟩
end Go.Proofs.YtgkobjpoeajkdaaGreat
namespace Go.Proofs.YtgkobjpoeajkdaaGreat.fnExactHardestOf
open Go.ChangeShapes Go.WideShapes Go.ChangeAt Go.RowKit

theorem exs_of_rows {w : World} : ∀ rows : List (List Value), (∀ x ∈ rows, x.length = 7 ∧ ExOk w x) → ∃ l : List ExR, rows = l.map ExR.cells ∧ ∀ e ∈ l, e.Laid w
  | [], _ => ⟨[], rfl, by simp⟩
  | x :: r, h => by
    obtain ⟨l, hl, hi⟩ := exs_of_rows r fun y hy => h y (by simp [hy])
    obtain ⟨L, A1, c1, l1, A2, c2, l2, A3, c3, l3, p, q, s, hx, X⟩ := (h x (by simp)).2
    exact ⟨⟨L, A1, c1, l1, A2, c2, l2, A3, c3, l3, p, q, s⟩ :: l, by rw [List.map_cons, hl, hx]; rfl, fun e he => by
      rcases List.mem_cons.1 he with rfl | he
      · exact X
      · exact hi e he⟩
def ExsOk (w : World) (cs : List Value) : Prop := ∃ (A : Option Addr) (c : Nat) (es : List ExR), cs = [.slice A es.length c] ∧ es.length ≤ 140737488351232 ∧ (∀ e ∈ es, e.Laid w) ∧ Sl w w.heap.size 7 A (es.map ExR.cells)
theorem dec_exs {H : Type} {enc : TypeId × Value → H} {w : World} : Dec enc Tryz.prog w 40 (ExsOk w) :=
  (dec_slice (k := 7) Tryz.underlying40 (by kernel_rfl) (by omega) (of_decide_eq_true (by kernel_rfl)) dec_ex).imp fun cs ⟨A, c, xs, h1, h2, h3, h4, h5⟩ => by
    obtain ⟨l, rfl, hi⟩ := exs_of_rows xs h4
    rw [List.length_map] at h1 h2 h3
    exact ⟨A, c, l, h1, h3, hi, h5⟩
set_option maxRecDepth 100000 in
theorem lifted (os : Os) (started : os.Started) (H : Type) (enc : TypeId × Value → H) :
    ReturnsInHanded {} Tryz.checked os 4 .any (Rows.fnExactHardestOfSpec.pre6 enc Tryz.prog Tryz.f4 Rows.fnExactHardestOfRow.domain false) (Rows.fnExactHardestOfSpec.post enc Tryz.prog Tryz.f4 false true false false) := by
  refine lifted_of started (by kernel_rfl) Tryz.func4
    (ChangeSpec.witness6 (enc := enc) (C := Tryz.checked) false ⟨#[], #[.slice none 0 0], []⟩ 8 (by kernel_rfl) (by kernel_rfl) (by kernel_rfl) (by kernel_rfl)) rfl rfl ?_ (by kernel_rfl) ?_
  · intro ds hd
    rw [Tryz.params4] at hd
    match ds, hd with
    | [_], _ => rfl
  intro W base args ds ps hval hA hlt hsz
  rw [Tryz.params4] at hA hval hsz
  obtain ⟨v0, vs0, d0, ds0, p0, q0, hargs, rfl, rfl, h0, r0⟩ := trodAll_cons hA
  obtain ⟨rfl, rfl, rfl⟩ := trodAll_nil r0
  obtain rfl : args = #[v0] := by cases args; simp_all
  have hlt0 : ∀ x ∈ p0, x.block < W.heap.size := fun x hx => hlt x (by simp [hx])
  obtain ⟨A, n, c, rfl, A', c', es, hcs, hn, hi, hs⟩ := dec_argS Tryz.underlying40 dec_exs (hval 0 40 v0 rfl rfl) h0 hlt0 (sized_arg hsz (j := 0) rfl rfl)
  simp only [List.cons.injEq, Value.slice.injEq, and_true] at hcs
  obtain ⟨rfl, rfl, rfl⟩ := hcs
  exact (lawHardestOf_c A c es W hn hi hs)

theorem over : Rows.fnExactHardestOfRow.holds Tryz.pinned (OpenSpec.ofChange Rows.fnExactHardestOfSpec) :=
  OpenClaim.holds_of_wide 4 Tryz.f4 rfl rfl rfl rfl rfl rfl rfl ⟨rfl, rfl, rfl, rfl, rfl⟩ rfl rfl rfl rfl rfl (by kernel_rfl) Tryz.func4 (by kernel_rfl)
    (of_decide_eq_true (by kernel_rfl)) (by unfold Func.isWrapper; first | (rw [if_pos (by decide +kernel)]; kernel_rfl) | (rw [if_neg (by decide +kernel)]; exact ⟨rfl, rfl⟩))
    (fun os started H enc _ => lifted os started H enc)

theorem proved : Rows.FnExactHardestOfSaid := over
#print axioms proved
end Go.Proofs.YtgkobjpoeajkdaaGreat.fnExactHardestOf
