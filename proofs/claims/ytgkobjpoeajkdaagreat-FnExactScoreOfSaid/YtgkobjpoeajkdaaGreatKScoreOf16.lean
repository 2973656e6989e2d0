/- Lists of exercises: the laws' copies, comparison and size of them. Conditions: the lists' lengths. Moves: equality of moves, as the program computes it. No condition. Whether moves are valid: the program's and the reference's. Conditions: the list's length. Answers: whether they are valid. Conditions: the lists' lengths. The step of an answer: how many of its moves are the usual plan's. Conditions: the lists' lengths; the exercise is valid. -/
import Derived.Laws.StructEq
import Derived.Shelf.Abstract
import Derived.BigQuiet
import Derived.Test.YtgkobjpoeajkdaaGreatKScoreOf4
import Derived.Test.YtgkobjpoeajkdaaGreatKScoreOf8
import Derived.Test.YtgkobjpoeajkdaaGreatKScoreOf13
import Derived.Test.YtgkobjpoeajkdaaGreatKScoreOf14
import Derived.Test.YtgkobjpoeajkdaaGreatKScoreOf15
namespace Go.Proofs.YtgkobjpoeajkdaaGreat
open Go.RowKit
/-- an exercise and where its lists lie -/
structure ExR where
  L : Int
  A1 : Option Addr
  c1 : Nat
  l1 : List Int
  A2 : Option Addr
  c2 : Nat
  l2 : List Int
  A3 : Option Addr
  c3 : Nat
  l3 : List Term
  p : Int
  q : Int
  r : Int
def ExR.cells (e : ExR) : List Value := [.int .i64 e.L, .slice e.A1 e.l1.length e.c1, .slice e.A2 e.l2.length e.c2, .slice e.A3 e.l3.length e.c3, .int .i64 e.p, .int .i64 e.q, .int .i64 e.r]
/-- the same exercise, elsewhere -/
def ExR.as (e : ExR) (B1 : Option Addr) (d1 : Nat) (B2 : Option Addr) (d2 : Nat) (B3 : Option Addr) (d3 : Nat) : ExR := ⟨e.L, B1, d1, e.l1, B2, d2, e.l2, B3, d3, e.l3, e.p, e.q, e.r⟩
def ExR.same (e f : ExR) : Prop := ∃ B1 d1 B2 d2 B3 d3, f = e.as B1 d1 B2 d2 B3 d3
def ExR.In (e : ExR) (w : World) : Prop := ExIn w e.A1 e.c1 e.l1 e.A2 e.c2 e.l2 e.A3 e.c3 e.l3
def ExR.Laid (e : ExR) (w : World) : Prop := ExLaid w e.A1 e.c1 e.l1 e.A2 e.c2 e.l2 e.A3 e.c3 e.l3
def ExR.short (e : ExR) : Prop := e.l1.length ≤ 1048576 ∧ e.l2.length ≤ 1048576 ∧ e.l3.length ≤ 1048576
theorem ExLaid.later {w W : World} {A1 : Option Addr} {c1 : Nat} {l1 : List Int} {A2 : Option Addr} {c2 : Nat} {l2 : List Int} {A3 : Option Addr} {c3 : Nat} {l3 : List Term} (E : ExLaid w A1 c1 l1 A2 c2 l2 A3 c3 l3) (hW : Below w.heap.size w W) : ExLaid W A1 c1 l1 A2 c2 l2 A3 c3 l3 :=
  ⟨E.z1, E.z2, E.z3, E.k1, E.k2, E.k3, (E.s1.below hW).more hW.size, (E.s2.below hW).more hW.size, (E.s3.below hW).more hW.size⟩
/-- a list of exercises, as it lies in w -/
structure ExsIn (w : World) (A : Option Addr) (es : List ExR) : Prop where
  n : es.length ≤ 1048576
  s : Sl w w.heap.size 7 A (es.map ExR.cells)
  i : ∀ e ∈ es, e.In w
theorem ExsIn.later {w W : World} {A : Option Addr} {es : List ExR} (h : ExsIn w A es) (hW : Below w.heap.size w W) : ExsIn W A es := ⟨h.n, (h.s.below hW).more hW.size, fun e he => ExIn.later (h.i e he) hW⟩
/-- the two lists hold the same exercises -/
def Sames (es fs : List ExR) : Prop := es.length = fs.length ∧ ∀ (k : Nat) (e f : ExR), es[k]? = some e → fs[k]? = some f → e.same f
/-- the lists lie outside block g -/
def ExR.Far (e : ExR) (g : Nat) : Prop := Off e.A1 g ∧ Off e.A2 g ∧ Off e.A3 g
theorem ExR.In.far {e : ExR} {w : World} {g j : Nat} {u : Value} (h : e.In w) (hf : e.Far g) : e.In (w.setCell ⟨g, j, none⟩ u) := by
  have hz : (w.setCell ⟨g, j, none⟩ u).heap.size = w.heap.size := by simp
  exact ⟨h.h1, h.h2, h.h3, h.k1, h.k2, h.k3, by rw [hz]; exact sl_far h.s1 hf.1, by rw [hz]; exact sl_far h.s2 hf.2.1, by rw [hz]; exact sl_far h.s3 hf.2.2⟩
theorem ExR.In.stores {e : ExR} {g : Nat} (hf : e.Far g) : ∀ (cs : List Value) (p : Nat) {w : World}, e.In w → e.In (stores w g p cs)
  | [], _, _, h => h
  | _ :: vs, p, _, h => ExR.In.stores hf vs (p + 1) (h.far hf)
theorem off_own {w : World} {base : Nat} {e : TypeId} {k g n c : Nat} {A : Option Addr} {xs : List (List Value)} (h : Own w base e k (.slice A n c) xs) (hg : g < base) : Off A g := fun b off hA => by
  subst hA
  have := h.1.lt b rfl
  omega
theorem off_lt {g : Nat} {A : Option Addr} (h : ∀ b off, A = some ⟨b, off, none⟩ → g < b) : Off A g := fun b off hA => by have := h b off hA; omega
set_option maxRecDepth 100000 in
theorem szExS_c (A : Option Addr) (c : Nat) (es : List ExR) (left : Int) (w : World) (hn : es.length ≤ 140737488351232) (hi : ∀ e ∈ es, e.Laid w) (hs : Sl w w.heap.size 7 A (es.map ExR.cells)) (hl : 0 ≤ left ∧ left ≤ 1048576) :
    Calls Tryz.prog 18 #[.slice A es.length c, .int .i64 left] w (SzPost left (es.length ≤ 1048576 ∧ ∀ e ∈ es, e.short) w) := by
  obtain ⟨h1, h2⟩ := hl
  by_cases h : left < es.length
  · have h' : left - es.length < 0 := by omega
    go_enter Tryz.func18, Tryz.ntmps18
    go_wp2
    go_ret
    exact ⟨⟨-1, rfl, .inl (by omega)⟩, Below.refl _ _⟩
  · have h' : ¬ left - es.length < 0 := by omega
    go_enter Tryz.func18, Tryz.ntmps18
    go_wp2_with fail
    go_loopw [1, 5] (fun a i wr => ∃ (k : Nat) (m : Int), k ≤ es.length ∧ i = .int .i64 k ∧ a = .int .i64 m ∧ (0 ≤ m ∧ m ≤ left) ∧ (∀ j (e : ExR), j < k → es[j]? = some e → e.short) ∧ Below w.heap.size w wr) (fun _ i _ => es.length - (intOf i).toNat)
    case atStart => exact ⟨0, _, Nat.zero_le _, rfl, rfl, by omega, fun _ _ h => by omega, Below.refl _ _⟩
    case round =>
      obtain ⟨k, m, hk, rfl, rfl, hm, hsh, hb⟩ := hrel
      have hm1 := hm.1
      have hm2 := hm.2
      have hsh := Lib.hid hsh
      by_cases hlt : k < es.length
      · obtain ⟨b, off, rfl, hbB, hc⟩ := hs.at_ (i := k) (by simpa using hlt)
        simp only [List.getElem_map] at hc
        have c0 : wr.cell? ⟨b, off + k * 7, none⟩ = some (.int .i64 es[k].L) := by rw [hb.cell hbB]; exact hc 0 _ rfl
        have c1 : wr.cell? ⟨b, off + k * 7 + 1, none⟩ = some (.slice es[k].A1 es[k].l1.length es[k].c1) := by rw [hb.cell hbB]; exact hc 1 _ rfl
        have c2 : wr.cell? ⟨b, off + k * 7 + 2, none⟩ = some (.slice es[k].A2 es[k].l2.length es[k].c2) := by rw [hb.cell hbB]; exact hc 2 _ rfl
        have c3 : wr.cell? ⟨b, off + k * 7 + 3, none⟩ = some (.slice es[k].A3 es[k].l3.length es[k].c3) := by rw [hb.cell hbB]; exact hc 3 _ rfl
        have c4 : wr.cell? ⟨b, off + k * 7 + 4, none⟩ = some (.int .i64 es[k].p) := by rw [hb.cell hbB]; exact hc 4 _ rfl
        have c5 : wr.cell? ⟨b, off + k * 7 + 5, none⟩ = some (.int .i64 es[k].q) := by rw [hb.cell hbB]; exact hc 5 _ rfl
        have c6 : wr.cell? ⟨b, off + k * 7 + 6, none⟩ = some (.int .i64 es[k].r) := by rw [hb.cell hbB]; exact hc 6 _ rfl
        clear hc
        have X := ExLaid.later (hi es[k] (List.getElem_mem hlt)) hb
        have HZ := fun W => Lib.hid (szExercise_c es[k].L es[k].A1 es[k].l1.length es[k].c1 es[k].A2 es[k].l2.length es[k].c2 es[k].A3 es[k].l3.length es[k].c3 es[k].p es[k].q es[k].r m W X.z1 X.z2 X.z3 (by omega))
        have HS : Hid (es[k].short → ∀ j (e : ExR), j < k + 1 → es[j]? = some e → e.short) := fun hx j e hj he => by
          by_cases hjk : j < k
          · exact hsh.out j e hjk he
          · obtain rfl : j = k := by omega
            rw [List.getElem?_eq_getElem hlt] at he
            cases he
            exact hx
        clear hi X hs hsh
        generalize es[k] = ek at *
        obtain ⟨L, A1, d1, l1, A2, d2, l2, A3, d3, l3, p, q, r⟩ := ek
        simp only at *
        go_wp2_with (go_at_call 13; refine Calls.mono (HZ _).out ?_; rintro e w1 ⟨⟨v, rfl, hv⟩, hb1⟩; rcases hv with hv | ⟨hv0, hvl, hlen⟩)
        · go_wp2
          go_ret
          exact ⟨⟨-1, rfl, .inl (by omega)⟩, hb.trans (hb1.mono hb.size)⟩
        · have hvn : ¬ v < 0 := by omega
          go_wp2
          go_roundw
          case rel => exact ⟨k + 1, v, by omega, by go_num, rfl, by omega, HS.out hlen, hb.trans (hb1.mono hb.size)⟩
          case measure => simp [intOf]; omega
      · have : k = es.length := by omega
        subst this
        go_wp2
        go_ret
        exact ⟨⟨m, rfl, .inr ⟨by omega, by omega, by omega, fun e he => by
          obtain ⟨j, hj, rfl⟩ := List.getElem_of_mem he
          exact hsh.out j _ hj (List.getElem?_eq_getElem hj)⟩⟩, hb⟩
theorem info_Exercise : (Tryz.prog.info? 36).map (fun i => (i.zero, i.size, i.bytes)) = some (some (.agg #[Value.int .i64 0, .slice none 0 0, .slice none 0 0, .slice none 0 0, .int .i64 0, .int .i64 0, .int .i64 0]), 7, 104) := by kernel_rfl
/-- copies so far: k of them, in block g -/
structure CopyS (w : World) (es : List ExR) (g k : Nat) (fs : List ExR) (wr : World) : Prop where
  hb : Below w.heap.size w wr
  fk : fs.length = k
  o : Own wr w.heap.size 36 7 (.slice (some ⟨g, 0, none⟩) es.length es.length) (fs.map ExR.cells ++ List.replicate (es.length - k) [Value.int .i64 0, .slice none 0 0, .slice none 0 0, .slice none 0 0, .int .i64 0, .int .i64 0, .int .i64 0])
  i : ∀ f ∈ fs, f.In wr ∧ f.Far g
  s : ∀ (j : Nat) (e f : ExR), es[j]? = some e → fs[j]? = some f → e.same f
theorem rows_put {xs : List (List Value)} {z x : List Value} {k n : Nat} (hk : xs.length = k) (hn : k < n) : (xs ++ List.replicate (n - k) z).set k x = (xs ++ [x]) ++ List.replicate (n - (k + 1)) z := by
  subst hk
  rw [List.set_append_right _ _ (Nat.le_refl _), Nat.sub_self]
  obtain ⟨m, hm⟩ : ∃ m, n - xs.length = m + 1 := ⟨n - xs.length - 1, by omega⟩
  rw [hm, show n - (xs.length + 1) = m from by omega, List.replicate_succ, List.set_cons_zero]
  simp
/-- the copy made, stored -/
theorem CopyS.next {w : World} {es : List ExR} {g k : Nat} {fs : List ExR} {w2 : World} (h : CopyS w es g k fs w2) {e f : ExR} (he : es[k]? = some e) (hf : e.same f) (hi : f.In w2) (hff : f.Far g) (hg : w.heap.size ≤ g) :
    CopyS w es g (k + 1) (fs ++ [f]) (stores w2 g (k * 7) f.cells) := by
  have hlt : k < es.length := (List.getElem?_eq_some_iff.1 he).1
  refine ⟨stores_below hg f.cells (k * 7) h.hb, by simp [h.fk], ?_, fun x hx => ?_, fun j e' f' he' hf' => ?_⟩
  · have h' := h.o.store (i := k) (by simp [h.fk]; omega) f.cells rfl
    rw [rows_put (by simp [h.fk]) hlt] at h'
    rw [List.map_append]
    exact h'
  · rcases List.mem_append.1 hx with hx | hx
    · exact ⟨ExR.In.stores (h.i x hx).2 _ _ (h.i x hx).1, (h.i x hx).2⟩
    · obtain rfl : x = f := by simpa using hx
      exact ⟨ExR.In.stores hff _ _ hi, hff⟩
  · by_cases hj : j < k
    · rw [List.getElem?_append_left (by rw [h.fk]; exact hj)] at hf'
      exact h.s j e' f' he' hf'
    · have hjl : j < (fs ++ [f]).length := (List.getElem?_eq_some_iff.1 hf').1
      simp [h.fk] at hjl
      obtain rfl : j = k := by omega
      rw [he] at he'
      cases he'
      rw [List.getElem?_append_right (by rw [h.fk]; exact Nat.le_refl _), h.fk] at hf'
      simp at hf'
      subst hf'
      exact hf
/-- what a copy of a list of exercises is -/
def ExsCopy (es : List ExR) (v : Value) (w' : World) (base : Nat) : Prop := ∃ A' c' fs, v = .slice A' es.length c' ∧ fs.length = es.length ∧ Sames es fs ∧ es.length ≤ c' ∧ ExsIn w' A' fs ∧ Own w' base 36 7 (.slice A' es.length c') (fs.map ExR.cells)
theorem ExsCopy.below {es : List ExR} {v : Value} {w w' : World} {base : Nat} (h : ExsCopy es v w base) (hb : Below w.heap.size w w') : ExsCopy es v w' base := by
  obtain ⟨A', c', fs, h1, h2, h3, h4, h5, h6⟩ := h
  exact ⟨A', c', fs, h1, h2, h3, h4, h5.later hb, h6.below hb⟩
theorem ExsCopy.weak {es : List ExR} {v : Value} {w : World} {base base' : Nat} (h : ExsCopy es v w base) (hb : base' ≤ base) : ExsCopy es v w base' := by
  obtain ⟨A', c', fs, h1, h2, h3, h4, h5, h6⟩ := h
  exact ⟨A', c', fs, h1, h2, h3, h4, h5, h6.mono hb⟩
set_option maxRecDepth 100000 in
theorem toExS_c (A : Option Addr) (c : Nat) (es : List ExR) (w : World) (E : ExsIn w A es) :
    Calls Tryz.prog 20 #[.slice A es.length c] w fun e w' => (∃ v, e = .returned v ∧ ExsCopy es v w' w.heap.size) ∧ Below w.heap.size w w' := by
  obtain ⟨i0, hi, hz0, hz1, hz2⟩ := info_parts info_Exercise
  have hl := E.n
  have hs := E.s
  have hin := Lib.hid E.i
  go_enter Tryz.func20, Tryz.ntmps20
  go_wp2_with (refine wpList_make_full _ rfl (.tmp 6) (.tmp 6) 44 rfl w.heap.size 36 i0 _ 7 Tryz.underlying44 hi hz0 hz1 .i64 .i64 _ _ es.length rfl rfl rfl rfl (by rw [hz2]; omega) (by unfold maxLen; omega) (Nat.le_refl _) ?_; intro w1 hown hg)
  have hb1 : Below w.heap.size w w1 := (Below.refl _ _).grown hg (Nat.le_refl _) (fun k h => by cases h)
  have hO : CopyS w es w.heap.size 0 [] w1 := by
    refine ⟨hb1, rfl, ⟨?_, by simp⟩, by simp, by simp⟩
    rw [made_rows _ 7 _ rfl (by omega)] at hown
    simpa [Value.cells] using hown
  clear hown hg hb1
  generalize hgs : w.heap.size = g at hO ⊢
  rw [hgs] at hs
  go_loopw [4] (fun i wr => ∃ (k : Nat) (fs : List ExR), k ≤ es.length ∧ i = .int .i64 k ∧ CopyS w es g k fs wr) (fun i _ => es.length - (intOf i).toNat)
  case atStart => exact ⟨0, [], Nat.zero_le _, rfl, hO⟩
  case round =>
    obtain ⟨k, fs, hk, rfl, hO⟩ := hrel
    by_cases hlt : k < es.length
    · have hb := hO.hb
      obtain ⟨b, off, rfl, hbB, hc⟩ := hs.at_ (i := k) (by simpa using hlt)
      simp only [List.getElem_map] at hc
      rw [← hgs] at hbB
      have c0 : wr.cell? ⟨b, off + k * 7, none⟩ = some (.int .i64 es[k].L) := by rw [hb.cell hbB]; exact hc 0 _ rfl
      have c1 : wr.cell? ⟨b, off + k * 7 + 1, none⟩ = some (.slice es[k].A1 es[k].l1.length es[k].c1) := by rw [hb.cell hbB]; exact hc 1 _ rfl
      have c2 : wr.cell? ⟨b, off + k * 7 + 2, none⟩ = some (.slice es[k].A2 es[k].l2.length es[k].c2) := by rw [hb.cell hbB]; exact hc 2 _ rfl
      have c3 : wr.cell? ⟨b, off + k * 7 + 3, none⟩ = some (.slice es[k].A3 es[k].l3.length es[k].c3) := by rw [hb.cell hbB]; exact hc 3 _ rfl
      have c4 : wr.cell? ⟨b, off + k * 7 + 4, none⟩ = some (.int .i64 es[k].p) := by rw [hb.cell hbB]; exact hc 4 _ rfl
      have c5 : wr.cell? ⟨b, off + k * 7 + 5, none⟩ = some (.int .i64 es[k].q) := by rw [hb.cell hbB]; exact hc 5 _ rfl
      have c6 : wr.cell? ⟨b, off + k * 7 + 6, none⟩ = some (.int .i64 es[k].r) := by rw [hb.cell hbB]; exact hc 6 _ rfl
      clear hc
      have HE : Hid (es[k]? = some es[k]) := List.getElem?_eq_getElem hlt
      have EI := ExIn.later (hin.out es[k] (List.getElem_mem hlt)) hb
      have HT := Lib.hid (toEx_c es[k].L es[k].A1 es[k].c1 es[k].l1 es[k].A2 es[k].c2 es[k].l2 es[k].A3 es[k].c3 es[k].l3 es[k].p es[k].q es[k].r wr EI)
      unfold exAgg at HT
      clear EI
      generalize es[k] = ek at *
      obtain ⟨L, A1, d1, l1, A2, d2, l2, A3, d3, l3, p, q, r⟩ := ek
      simp only at *
      have hgl : g < wr.heap.size := hO.o.block_ge.2
      go_wp2_with (go_at_call 15; refine Calls.mono HT.out ?_; rintro e w2 ⟨⟨v, rfl, B1, e1, B2, e2, B3, e3, rfl, E2, o1, o2, o3⟩, hb2⟩; unfold exAgg; have hO2 : CopyS w es g k fs w2 := (⟨hO.hb.trans (hb2.mono hO.hb.size), hO.fk, hO.o.below hb2, (fun f hf => ⟨ExIn.later (hO.i f hf).1 hb2, (hO.i f hf).2⟩), hO.s⟩); have hkl : k < (fs.map ExR.cells ++ List.replicate (es.length - k) [Value.int .i64 0, .slice none 0 0, .slice none 0 0, .slice none 0 0, .int .i64 0, .int .i64 0, .int .i64 0]).length := (by simp [hO.fk]; omega); obtain ⟨v0, e00⟩ : ∃ v, w2.cell? ⟨g, k * 7, none⟩ = some v := hO2.o.cell (i := k) (j := 0) hkl (by omega); have f0 : w2.frozen? ⟨g, k * 7, none⟩ = false := hO2.o.frozen _; obtain ⟨v1, e01⟩ : ∃ v, w2.cell? ⟨g, k * 7 + 1, none⟩ = some v := hO2.o.cell (i := k) (j := 1) hkl (by omega); have f1 : w2.frozen? ⟨g, k * 7 + 1, none⟩ = false := hO2.o.frozen _; obtain ⟨v2, e02⟩ : ∃ v, w2.cell? ⟨g, k * 7 + 2, none⟩ = some v := hO2.o.cell (i := k) (j := 2) hkl (by omega); have f2 : w2.frozen? ⟨g, k * 7 + 2, none⟩ = false := hO2.o.frozen _; obtain ⟨v3, e03⟩ : ∃ v, w2.cell? ⟨g, k * 7 + 3, none⟩ = some v := hO2.o.cell (i := k) (j := 3) hkl (by omega); have f3 : w2.frozen? ⟨g, k * 7 + 3, none⟩ = false := hO2.o.frozen _; obtain ⟨v4, e04⟩ : ∃ v, w2.cell? ⟨g, k * 7 + 4, none⟩ = some v := hO2.o.cell (i := k) (j := 4) hkl (by omega); have f4 : w2.frozen? ⟨g, k * 7 + 4, none⟩ = false := hO2.o.frozen _; obtain ⟨v5, e05⟩ : ∃ v, w2.cell? ⟨g, k * 7 + 5, none⟩ = some v := hO2.o.cell (i := k) (j := 5) hkl (by omega); have f5 : w2.frozen? ⟨g, k * 7 + 5, none⟩ = false := hO2.o.frozen _; obtain ⟨v6, e06⟩ : ∃ v, w2.cell? ⟨g, k * 7 + 6, none⟩ = some v := hO2.o.cell (i := k) (j := 6) hkl (by omega); have f6 : w2.frozen? ⟨g, k * 7 + 6, none⟩ = false := hO2.o.frozen _)
      go_roundw
      case rel =>
        refine ⟨k + 1, _, by omega, by go_num, hO2.next (f := ⟨L, B1, e1, l1, B2, e2, l2, B3, e3, l3, p, q, r⟩) HE.out ⟨B1, e1, B2, e2, B3, e3, rfl⟩ E2 ⟨off_own o1 hgl, off_own o2 hgl, off_own o3 hgl⟩ (by omega)⟩
      case measure => simp [intOf]; omega
    · have : k = es.length := by omega
      subst this
      go_wp2
      go_ret
      have ho := hO.o
      rw [Nat.sub_self, List.replicate_zero, List.append_nil] at ho
      have hb := hO.hb
      subst hgs
      exact ⟨⟨_, rfl, _, _, fs, rfl, hO.fk, ⟨hO.fk.symm, hO.s⟩, Nat.le_refl _, ⟨by rw [hO.fk]; exact hl, ho.sl, fun f hf => (hO.i f hf).1⟩, ho⟩, hb⟩
set_option maxRecDepth 100000 in
theorem eqExS_c (A A' : Option Addr) (c c' : Nat) (es fs : List ExR) (w : World) (E : ExsIn w A es) (E' : ExsIn w A' fs) (hE : Sames es fs) :
    Calls Tryz.prog 22 #[.slice A es.length c, .slice A' fs.length c'] w fun e w' => e = .returned (.bool true) ∧ Below w.heap.size w w' := by
  have hl := E.n
  have hl' := E'.n
  have hs := E.s
  have hs' := E'.s
  have hlen : es.length = fs.length := hE.1
  rw [← hlen]
  have hin := Lib.hid E.i
  have hin' := Lib.hid E'.i
  have hsame := Lib.hid hE.2
  rw [← hlen] at hl'
  have HL := Lib.hid hlen
  clear hlen hE E E'
  go_enter Tryz.func22, Tryz.ntmps22
  go_wp2_with fail
  go_loopw [5] (fun i wr => ∃ k : Nat, k ≤ es.length ∧ i = .int .i64 k ∧ Below w.heap.size w wr) (fun i _ => es.length - (intOf i).toNat)
  case atStart => exact ⟨0, Nat.zero_le _, rfl, Below.refl _ _⟩
  case round =>
    obtain ⟨k, hk, rfl, hb⟩ := hrel
    by_cases hlt : k < es.length
    · have hltf : k < fs.length := by have := HL.out; omega
      obtain ⟨b, off, rfl, hbB, hc⟩ := hs.at_ (i := k) (by simpa using hlt)
      obtain ⟨b', off', rfl, hbB', hc'⟩ := hs'.at_ (i := k) (by simpa using hltf)
      simp only [List.getElem_map] at hc hc'
      have HC : ∀ (v : World), Below wr.heap.size wr v → ∀ j u, es[k].cells[j]? = some u → v.cell? ⟨b, off + k * 7 + j, none⟩ = some u := fun v hv j u h => by rw [hv.cell (Nat.lt_of_lt_of_le hbB hb.size), hb.cell hbB]; exact hc j u h
      have HC' : ∀ (v : World), Below wr.heap.size wr v → ∀ j u, fs[k].cells[j]? = some u → v.cell? ⟨b', off' + k * 7 + j, none⟩ = some u := fun v hv j u h => by rw [hv.cell (Nat.lt_of_lt_of_le hbB' hb.size), hb.cell hbB']; exact hc' j u h
      clear hc hc'
      have I1 : es[k].In wr := ExIn.later (hin.out es[k] (List.getElem_mem hlt)) hb
      have I2 : fs[k].In wr := ExIn.later (hin'.out fs[k] (List.getElem_mem hltf)) hb
      have hsm := hsame.out k _ _ (List.getElem?_eq_getElem hlt) (List.getElem?_eq_getElem hltf)
      generalize es[k] = ek at *
      generalize fs[k] = fk at *
      obtain ⟨B1, d1, B2, d2, B3, d3, rfl⟩ := hsm
      obtain ⟨L, A1, c1, l1, A2, c2, l2, A3, c3, l3, p, q, r⟩ := ek
      clear hltf
      have HC := Lib.hid HC
      have HC' := Lib.hid HC'
      have I1 := Lib.hid I1
      have I2 := Lib.hid I2
      go_wp2_with fail
      refine wp_region_sink 9 (fun a0 fL bA v => ∃ v17 v18 v19 v20 v21 v22 v23 v24 v25 : Value, bA = ((((((((a0.put (some 17) v17).put (some 18) v18).put (some 19) v19).put (some 20) v20).put (some 21) v21).put (some 22) v22).put (some 23) v23).put (some 24) v24).put (some 25) v25 ∧ (Below wr.heap.size wr v) ∧ (fL 0 = true → v17 = .slice (some ⟨b, off, none⟩) es.length c) ∧ (fL 1 = true → v18 = .int .i64 k) ∧ (fL 2 = true → v19 = .pointer (some ⟨b, off + k * 7, none⟩)) ∧ (fL 3 = true → v20 = .agg #[.int .i64 L, .slice A1 l1.length c1, .slice A2 l2.length c2, .slice A3 l3.length c3, .int .i64 p, .int .i64 q, .int .i64 r]) ∧ (fL 4 = true → v21 = .slice (some ⟨b', off', none⟩) es.length c') ∧ (fL 5 = true → v22 = .int .i64 k) ∧ (fL 6 = true → v23 = .pointer (some ⟨b', off' + k * 7, none⟩)) ∧ (fL 7 = true → v24 = .agg #[.int .i64 L, .slice B1 l1.length d1, .slice B2 l2.length d2, .slice B3 l3.length d3, .int .i64 p, .int .i64 q, .int .i64 r]) ∧ (fL 8 = true → v25 = .bool true)) (by kernel_rfl) (by decide +kernel) ?_ ?_ ?_
      · exact ⟨_, _, _, _, _, _, _, _, _, put_more (put_more (put_more (put_more (put_more (put_more (put_more (put_more (put_more (rfl) 17) 18) 19) 20) 21) 22) 23) 24) 25, (Below.refl _ _).drew, nofun, nofun, nofun, nofun, nofun, nofun, nofun, nofun, nofun⟩
      · rintro fL bA v ⟨v17, v18, v19, v20, v21, v22, v23, v24, v25, rfl, hS, q0, q1, q2, q3, q4, q5, q6, q7, q8⟩ i hi hf o ho hall
        simp only [Act.put, List.setIfInBounds_toArray, List.set_cons_zero, List.set_cons_succ]
        have hn : i = 0 ∨ i = 1 ∨ i = 2 ∨ i = 3 ∨ i = 4 ∨ i = 5 ∨ i = 6 ∨ i = 7 ∨ i = 8 := by omega
        clear hi
        rcases hn with rfl | rfl | rfl | rfl | rfl | rfl | rfl | rfl | rfl
        · obtain rfl := Option.some.inj ho
          clear hall ho
          refine wpOp_step rfl (fun K hK => ?_)
          go_simp
          exact hK _ _ ⟨_, _, _, _, _, _, _, _, _, rfl, hS, fun _ => rfl, q1, q2, q3, q4, q5, q6, q7, q8⟩
        · obtain rfl := Option.some.inj ho
          clear hall ho
          refine wpOp_step rfl (fun K hK => ?_)
          go_simp
          exact hK _ _ ⟨_, _, _, _, _, _, _, _, _, rfl, hS, q0, fun _ => rfl, q2, q3, q4, q5, q6, q7, q8⟩
        · obtain rfl := Option.some.inj ho
          obtain rfl := q0 (hall ⟨0, .data⟩ (by simp) rfl)
          obtain rfl := q1 (hall ⟨1, .data⟩ (by simp) rfl)
          clear hall ho
          refine wpOp_step rfl (fun K hK => ?_)
          go_simp
          exact hK _ _ ⟨_, _, _, _, _, _, _, _, _, rfl, hS, fun _ => rfl, fun _ => rfl, fun _ => rfl, q3, q4, q5, q6, q7, q8⟩
        · obtain rfl := Option.some.inj ho
          obtain rfl := q2 (hall ⟨2, .data⟩ (by simp) rfl)
          have y0 : v.cell? ⟨b, off + k * 7, none⟩ = some (.int .i64 L) := HC.out v hS 0 _ rfl
          have y1 : v.cell? ⟨b, off + k * 7 + 1, none⟩ = some (.slice A1 l1.length c1) := HC.out v hS 1 _ rfl
          have y2 : v.cell? ⟨b, off + k * 7 + 2, none⟩ = some (.slice A2 l2.length c2) := HC.out v hS 2 _ rfl
          have y3 : v.cell? ⟨b, off + k * 7 + 3, none⟩ = some (.slice A3 l3.length c3) := HC.out v hS 3 _ rfl
          have y4 : v.cell? ⟨b, off + k * 7 + 4, none⟩ = some (.int .i64 p) := HC.out v hS 4 _ rfl
          have y5 : v.cell? ⟨b, off + k * 7 + 5, none⟩ = some (.int .i64 q) := HC.out v hS 5 _ rfl
          have y6 : v.cell? ⟨b, off + k * 7 + 6, none⟩ = some (.int .i64 r) := HC.out v hS 6 _ rfl
          clear hall ho
          refine wpOp_step rfl (fun K hK => ?_)
          go_simp
          exact hK _ _ ⟨_, _, _, _, _, _, _, _, _, rfl, hS, q0, q1, fun _ => rfl, fun _ => rfl, q4, q5, q6, q7, q8⟩
        · obtain rfl := Option.some.inj ho
          clear hall ho
          refine wpOp_step rfl (fun K hK => ?_)
          go_simp
          exact hK _ _ ⟨_, _, _, _, _, _, _, _, _, rfl, hS, q0, q1, q2, q3, fun _ => rfl, q5, q6, q7, q8⟩
        · obtain rfl := Option.some.inj ho
          clear hall ho
          refine wpOp_step rfl (fun K hK => ?_)
          go_simp
          exact hK _ _ ⟨_, _, _, _, _, _, _, _, _, rfl, hS, q0, q1, q2, q3, q4, fun _ => rfl, q6, q7, q8⟩
        · obtain rfl := Option.some.inj ho
          obtain rfl := q4 (hall ⟨4, .data⟩ (by simp) rfl)
          obtain rfl := q5 (hall ⟨5, .data⟩ (by simp) rfl)
          clear hall ho
          refine wpOp_step rfl (fun K hK => ?_)
          go_simp
          exact hK _ _ ⟨_, _, _, _, _, _, _, _, _, rfl, hS, q0, q1, q2, q3, fun _ => rfl, fun _ => rfl, fun _ => rfl, q7, q8⟩
        · obtain rfl := Option.some.inj ho
          obtain rfl := q6 (hall ⟨6, .data⟩ (by simp) rfl)
          have y0 : v.cell? ⟨b', off' + k * 7, none⟩ = some (.int .i64 L) := HC'.out v hS 0 _ rfl
          have y1 : v.cell? ⟨b', off' + k * 7 + 1, none⟩ = some (.slice B1 l1.length d1) := HC'.out v hS 1 _ rfl
          have y2 : v.cell? ⟨b', off' + k * 7 + 2, none⟩ = some (.slice B2 l2.length d2) := HC'.out v hS 2 _ rfl
          have y3 : v.cell? ⟨b', off' + k * 7 + 3, none⟩ = some (.slice B3 l3.length d3) := HC'.out v hS 3 _ rfl
          have y4 : v.cell? ⟨b', off' + k * 7 + 4, none⟩ = some (.int .i64 p) := HC'.out v hS 4 _ rfl
          have y5 : v.cell? ⟨b', off' + k * 7 + 5, none⟩ = some (.int .i64 q) := HC'.out v hS 5 _ rfl
          have y6 : v.cell? ⟨b', off' + k * 7 + 6, none⟩ = some (.int .i64 r) := HC'.out v hS 6 _ rfl
          clear hall ho
          refine wpOp_step rfl (fun K hK => ?_)
          go_simp
          exact hK _ _ ⟨_, _, _, _, _, _, _, _, _, rfl, hS, q0, q1, q2, q3, q4, q5, fun _ => rfl, fun _ => rfl, q8⟩
        · obtain rfl := Option.some.inj ho
          obtain rfl := q3 (hall ⟨3, .data⟩ (by simp) rfl)
          obtain rfl := q7 (hall ⟨7, .data⟩ (by simp) rfl)
          clear hall ho
          refine wpOp_step rfl (fun K hK => ?_)
          go_simp
          refine Calls.mono (eqEx_c L A1 c1 B1 d1 l1 A2 c2 B2 d2 l2 A3 c3 B3 d3 l3 p q r v (ExIn.later I1.out hS) (ExIn.later I2.out hS)) ?_; rintro e w1 ⟨rfl, hb1⟩
          go_simp
          exact hK _ _ ⟨_, _, _, _, _, _, _, _, _, rfl, hS.trans (hb1.mono hS.size), q0, q1, q2, fun _ => rfl, q4, q5, q6, fun _ => rfl, fun _ => rfl⟩
      · rintro fL bA v ⟨v17, v18, v19, v20, v21, v22, v23, v24, v25, rfl, hS, q0, q1, q2, q3, q4, q5, q6, q7, q8⟩ hall
        simp only [Act.put, List.setIfInBounds_toArray, List.set_cons_zero, List.set_cons_succ]
        obtain rfl := q0 (hall 0 (by omega))
        obtain rfl := q1 (hall 1 (by omega))
        obtain rfl := q2 (hall 2 (by omega))
        obtain rfl := q3 (hall 3 (by omega))
        obtain rfl := q4 (hall 4 (by omega))
        obtain rfl := q5 (hall 5 (by omega))
        obtain rfl := q6 (hall 6 (by omega))
        obtain rfl := q7 (hall 7 (by omega))
        obtain rfl := q8 (hall 8 (by omega))
        clear hall
        simp only [List.drop_succ_cons, List.drop_zero]
        have hbv := hb.trans (hS.mono hb.size)
        go_wp2
        go_roundw
        case rel => exact ⟨k + 1, by omega, by go_num, (by repeat (first | with_reducible exact hbv | with_reducible apply below_drewN' | with_reducible apply Below.drew | (with_reducible refine Below.alloc ?_ (by first | omega | (simp; omega) | simp) _) | (with_reducible refine Below.setCell ?_ (by first | omega | (simp; omega) | simp) _) | exact hbv))⟩
        case measure => simp [intOf]; omega
    · have : k = es.length := by omega
      subst this
      go_wp2
      go_ret
      exact ⟨rfl, hb⟩
end Go.Proofs.YtgkobjpoeajkdaaGreat
namespace Go.Proofs.YtgkobjpoeajkdaaGreat
open Go.RowKit
/-- one field more -/
theorem eqFields_more {P : Program} {w : World} {d : Nat} {xs ys : Array Value} {f : Field} {fs : List Field} {x y : Value} {r s : Bool} (hn : f.name ≠ "_") (hx : (part f.type xs f.offset).run P w = .ok x w) (hy : (part f.type ys f.offset).run P w = .ok y w)
    (hr : (Op.equalIn d f.type x y).run P w = .ok r w) (hs : (Op.eqFields d xs ys fs).run P w = .ok s w) : (Op.eqFields d xs ys (f :: fs)).run P w = .ok (r && s) w := by
  simp only [Op.eqFields, hn, ne_eq, not_false_eq_true, if_true, Sem.run_bind, hx, hy, hr, Result.andThen_ok]
  cases r
  · simp
  · simp [hs]
theorem eqFields_none {P : Program} {w : World} {d : Nat} {xs ys : Array Value} : (Op.eqFields d xs ys []).run P w = .ok true w := by simp [Op.eqFields]
theorem part_int (xs : Array Value) (o : Nat) (a : Int) (w : World) (h : xs[o]? = some (.int .i64 a)) : (part 2 xs o).run Tryz.prog w = .ok (.int .i64 a) w := by
  have u3 := Tryz.underlying2
  have a3 := Tryz.isAgg2
  have z3 := Tryz.sizeOf2
  go_simp
theorem eq_int (n : Nat) (a b : Int) (w : World) : (Op.equalIn (n + 1) 2 (.int .i64 a) (.int .i64 b)).run Tryz.prog w = .ok (decide (a = b)) w := by
  have u3 := Tryz.underlying2
  have a3 := Tryz.isAgg2
  have z3 := Tryz.sizeOf2
  by_cases h : a = b
  all_goals go_simp
theorem part_fig (a b c d : Value) (w : World) : (part 65 #[a, b, c, d] 2).run Tryz.prog w = .ok (.agg #[c, d]) w := by
  have a4 := Tryz.isAgg65
  have z4 := Tryz.sizeOf65
  go_simp
theorem eq_fig (n : Nat) (a b c d : Int) (w : World) : (Op.equalIn (n + 2) 65 (.agg #[.int .i64 a, .int .i64 b]) (.agg #[.int .i64 c, .int .i64 d])).run Tryz.prog w = .ok (decide (a = c) && (decide (b = d) && true)) w := by
  have hS2 : Tryz.prog.underlying 65 = some (.struct (Tryz.prog.fieldsOf 65)) := by kernel_rfl
  have hp2 : Tryz.prog.stoodInHeld 65 = false := by kernel_rfl
  rw [run_equalIn_agg w (n + 1) 65 _ _ hS2 hp2]
  simp only [Program.fieldsOf, Tryz.underlying65]
  exact eqFields_more (by decide) (part_int _ _ _ _ rfl) (part_int _ _ _ _ rfl) (eq_int _ _ _ _) (eqFields_more (by decide) (part_int _ _ _ _ rfl) (part_int _ _ _ _ rfl) (eq_int _ _ _ _) eqFields_none)
set_option maxRecDepth 100000 in
theorem eqMov (k a b c k' a' b' c' : Int) (w : World) : Sem.run Tryz.prog (binOp .eql 72 (.agg #[.int .i64 k, .int .i64 a, .int .i64 b, .int .i64 c]) (.agg #[.int .i64 k', .int .i64 a', .int .i64 b', .int .i64 c'])) w = .ok (.bool (decide (k = k') && (decide (a = a') && ((decide (b = b') && (decide (c = c') && true)) && true)))) w := by
  have hS : Tryz.prog.underlying 72 = some (.struct (Tryz.prog.fieldsOf 72)) := by kernel_rfl
  have hp : Tryz.prog.stoodInHeld 72 = false := by kernel_rfl
  rw [run_eql_struct, show (10000 : Nat) = 9997 + 1 + 1 + 1 from rfl, run_equalIn_agg w (9997 + 1 + 1) 72 _ _ hS hp]
  simp only [Program.fieldsOf, Tryz.underlying72]
  have H := eqFields_more (P := Tryz.prog) (w := w) (d := 9997 + 1 + 1) (xs := #[.int .i64 k, .int .i64 a, .int .i64 b, .int .i64 c]) (ys := #[.int .i64 k', .int .i64 a', .int .i64 b', .int .i64 c']) (f := ⟨"Kind", 2, 0, false, "", "", 0⟩) (fs := _) (by decide) (part_int _ _ _ _ rfl) (part_int _ _ _ _ rfl) (eq_int _ _ _ _) (eqFields_more (f := ⟨"Scale", 2, 1, false, "", "", 8⟩) (fs := _) (by decide) (part_int _ _ _ _ rfl) (part_int _ _ _ _ rfl) (eq_int _ _ _ _) (eqFields_more (f := ⟨"Figure", 65, 2, false, "", "", 16⟩) (by decide) (part_fig _ _ _ _ _) (part_fig _ _ _ _ _) (eq_fig 9997 _ _ _ _ _) eqFields_none))
  rw [H]
  rfl
end Go.Proofs.YtgkobjpoeajkdaaGreat
namespace Go.Proofs.YtgkobjpoeajkdaaGreat
open Go.RowKit
set_option maxRecDepth 100000 in
set_option maxHeartbeats 1000000 in
theorem isMove_c (k s a b : Int) (w : World) : Calls Tryz.prog 239 #[.agg #[.int .i64 k, .int .i64 s, .int .i64 a, .int .i64 b]] w fun e w' => e = .returned (.bool (moveB ⟨k, s, a, b⟩)) ∧ Below w.heap.size w w' := by
  have hGt : Tryz.prog.eqGuardType Tryz.prog.depth 72 = false := by kernel_rfl
  have HS := fun W => Lib.hid (implIsScale_c s W)
  have HF0 := fun W => implIsFigure_c ⟨a, b⟩ W
  unfold Figure.agg at HF0
  have HF := fun W => Lib.hid (HF0 W)
  clear HF0
  have HQ := fun W => eqMov k s a b k 0 0 0 W
  have hW : Below w.heap.size w (w.alloc (.cells #[.int .i64 k, .int .i64 s, .int .i64 a, .int .i64 b] 72)) := (by repeat (first | with_reducible exact Below.refl _ _ | with_reducible apply below_drewN' | with_reducible apply Below.drew | (with_reducible refine Below.alloc ?_ (by first | omega | (simp; omega) | simp) _) | (with_reducible refine Below.setCell ?_ (by first | omega | (simp; omega) | simp) _) | exact Below.refl _ _))
  by_cases h0 : 0 ≤ k ∧ k ≤ 2
  · have HR0 := moveB_lo (m := ⟨k, s, a, b⟩) h0
    simp only at HR0
    have hsc : scaleB s = (inB s 0 5 && !(decide (s = 5))) := by unfold scaleB; rfl
    rw [hsc] at HR0
    have HR := Lib.hid HR0
    clear HR0
    generalize figOK ⟨a, b⟩ = v at *
    have HN0 := fun W => within_c k 0 2 W
    simp only [inB_true.2 h0] at HN0
    have HN := fun W => Lib.hid (HN0 W)
    clear h0 HQ hsc HN0
    cases hu : inB s 0 5 with
    | false =>
      rw [hu] at HR
      simp only [hu] at HS
      clear hu
      skip
      all_goals
        go_enter Tryz.func239, Tryz.ntmps239
        go_wp2_with (first | (go_at_call 78; refine Calls.mono (HN _).out ?_; rintro e w1 ⟨rfl, rfl⟩) | (go_at_call 184; refine Calls.mono (HS _).out ?_; rintro e w1 ⟨rfl, rfl⟩))
        go_ret
        exact ⟨by rw [HR.out]; rfl, (by repeat (first | with_reducible exact hW | with_reducible apply below_drewN' | with_reducible apply Below.drew | (with_reducible refine Below.alloc ?_ (by first | omega | (simp; omega) | simp) _) | (with_reducible refine Below.setCell ?_ (by first | omega | (simp; omega) | simp) _) | exact hW))⟩
    | true =>
      rw [hu] at HR
      simp only [hu] at HS
      clear hu
      by_cases h5 : s = 5
      · subst h5
        skip
        all_goals
          go_enter Tryz.func239, Tryz.ntmps239
          go_wp2_with (first | (go_at_call 78; refine Calls.mono (HN _).out ?_; rintro e w1 ⟨rfl, rfl⟩) | (go_at_call 184; refine Calls.mono (HS _).out ?_; rintro e w1 ⟨rfl, rfl⟩))
          go_ret
          exact ⟨by rw [HR.out]; rfl, (by repeat (first | with_reducible exact hW | with_reducible apply below_drewN' | with_reducible apply Below.drew | (with_reducible refine Below.alloc ?_ (by first | omega | (simp; omega) | simp) _) | (with_reducible refine Below.setCell ?_ (by first | omega | (simp; omega) | simp) _) | exact hW))⟩
      · have h5' : decide (s = 5) = false := decide_eq_false h5
        have h5b : (s != 5) = true := by simpa using h5
        rw [h5'] at HR
        skip
        all_goals
          go_enter Tryz.func239, Tryz.ntmps239
          go_wp2_with (first | (go_at_call 78; refine Calls.mono (HN _).out ?_; rintro e w1 ⟨rfl, rfl⟩) | (go_at_call 184; refine Calls.mono (HS _).out ?_; rintro e w1 ⟨rfl, rfl⟩) | (go_at_call 189; refine Calls.mono (HF _).out ?_; rintro e w1 ⟨rfl, hb1⟩; have hW1 := hW.trans (hb1.mono hW.size)))
          go_ret
          exact ⟨by rw [HR.out]; cases v <;> rfl, (by repeat (first | with_reducible exact hW1 | with_reducible apply below_drewN' | with_reducible apply Below.drew | (with_reducible refine Below.alloc ?_ (by first | omega | (simp; omega) | simp) _) | (with_reducible refine Below.setCell ?_ (by first | omega | (simp; omega) | simp) _) | exact hW1))⟩
  · by_cases h3 : 3 ≤ k ∧ k ≤ 6
    · have HR := Lib.hid (moveB_hi (m := ⟨k, s, a, b⟩) h3)
      simp only at HR
      have hk : k = 3 ∨ k = 4 ∨ k = 5 ∨ k = 6 := by omega
      clear h0 h3 HS HF
      rcases hk with rfl | rfl | rfl | rfl
      all_goals
        go_enter Tryz.func239, Tryz.ntmps239
        go_wp2
        go_ret
        exact ⟨by rw [HR.out]; simp, (by repeat (first | with_reducible exact hW | with_reducible apply below_drewN' | with_reducible apply Below.drew | (with_reducible refine Below.alloc ?_ (by first | omega | (simp; omega) | simp) _) | (with_reducible refine Below.setCell ?_ (by first | omega | (simp; omega) | simp) _) | exact hW))⟩
    · have hk : k < 0 ∨ 6 < k := by omega
      have HR := Lib.hid (moveB_out (m := ⟨k, s, a, b⟩) hk)
      have hz : (¬ 0 ≤ k ∧ ¬ 3 ≤ k) ∨ (¬ k ≤ 2 ∧ ¬ k ≤ 6) := by omega
      clear h0 h3 HS HF HQ hk
      rcases hz with ⟨h1, h2⟩ | ⟨h1, h2⟩
      all_goals
        go_enter Tryz.func239, Tryz.ntmps239
        go_wp2
        go_ret
        exact ⟨by rw [HR.out]; rfl, (by repeat (first | with_reducible exact hW | with_reducible apply below_drewN' | with_reducible apply Below.drew | (with_reducible refine Below.alloc ?_ (by first | omega | (simp; omega) | simp) _) | (with_reducible refine Below.setCell ?_ (by first | omega | (simp; omega) | simp) _) | exact hW))⟩
theorem movePred (w : World) : PredMove 238 #[] (fun m => !moveB m) w := by
  intro m W _
  have H := fun W => Lib.hid (isMove_c m.kind m.scale m.digits m.tens W)
  obtain ⟨k, s, a, b⟩ := m
  unfold Move.agg
  simp only at H ⊢
  have hW : Below W.heap.size W (W.alloc (.cells #[.int .i64 k, .int .i64 s, .int .i64 a, .int .i64 b] 72)) := (by repeat (first | with_reducible exact Below.refl _ _ | with_reducible apply below_drewN' | with_reducible apply Below.drew | (with_reducible refine Below.alloc ?_ (by first | omega | (simp; omega) | simp) _) | (with_reducible refine Below.setCell ?_ (by first | omega | (simp; omega) | simp) _) | exact Below.refl _ _))
  generalize moveB ⟨k, s, a, b⟩ = mb at *
  go_enter Tryz.func238, Tryz.ntmps238
  go_wp2_with (go_at_call 239; refine Calls.mono (H _).out ?_; rintro e w1 ⟨rfl, hb1⟩; have hW1 := hW.trans (hb1.mono hW.size))
  go_ret
  exact ⟨rfl, (by repeat (first | with_reducible exact hW1 | with_reducible apply below_drewN' | with_reducible apply Below.drew | (with_reducible refine Below.alloc ?_ (by first | omega | (simp; omega) | simp) _) | (with_reducible refine Below.setCell ?_ (by first | omega | (simp; omega) | simp) _) | exact hW1))⟩
set_option maxRecDepth 100000 in
theorem allMoves_c (A : Option Addr) (c : Nat) (l : List Move) (w : World) (hl : l.length ≤ 140737488351232) (hs : Sl w w.heap.size 4 A (l.map Move.cells)) :
    Calls Tryz.prog 199 #[.slice A l.length c] w fun e w' => e = .returned (.bool (l.all moveB)) ∧ Below w.heap.size w w' := by
  have hcall := containsFuncMove_c A c l 238 #[] (fun t => !moveB t) w (enters_of Tryz.func238 (by kernel_rfl) rfl) (movePred w) hl hs
  have hall : l.any (fun t => !moveB t) = !(l.all moveB) := by rw [List.any_eq_not_all_not]; simp
  rw [hall] at hcall
  have HC := Lib.hid hcall
  clear hcall hall
  generalize l.all moveB = b at *
  go_enter Tryz.func199, Tryz.ntmps199
  go_wp2_with fail
  refine Calls.mono HC.out ?_; rintro e w1 ⟨rfl, hb1⟩
  go_wp2
  go_ret
  exact ⟨by simp, (by repeat (first | with_reducible exact hb1 | with_reducible apply below_drewN' | with_reducible apply Below.drew | (with_reducible refine Below.alloc ?_ (by first | omega | (simp; omega) | simp) _) | (with_reducible refine Below.setCell ?_ (by first | omega | (simp; omega) | simp) _) | exact hb1))⟩
/-- whether a list of moves is valid -/
def movesB (l : List Move) : Bool := decide (l.length ≤ 30) && l.all moveB
theorem movesCode_eq (l : List Move) : (movesCode l == 0) = movesB l := by
  unfold movesCode movesB
  cases l.all moveB
  · simp
  · by_cases h : 30 < l.length
    · simp [h]
    · simp [h]; omega
theorem areMoves_c (A : Option Addr) (c : Nat) (l : List Move) (w : World) (hl : l.length ≤ 140737488351232) (hs : Sl w w.heap.size 4 A (l.map Move.cells)) :
    Calls Tryz.prog 188 #[.slice A l.length c] w fun e w' => e = .returned (.bool (movesB l)) ∧ Below w.heap.size w w' := by
  have HC := Lib.hid (allMoves_c A c l w hl hs)
  unfold movesB
  by_cases h : l.length ≤ 30
  · have h' : (l.length : Int) ≤ 30 := by omega
    rw [decide_eq_true h]
    generalize l.all moveB = b at *
    go_enter Tryz.func188, Tryz.ntmps188
    go_wp2_with fail
    refine Calls.mono HC.out ?_; rintro e w1 ⟨rfl, hb1⟩
    go_wp2
    go_ret
    exact ⟨by simp, (by repeat (first | with_reducible exact hb1 | with_reducible apply below_drewN' | with_reducible apply Below.drew | (with_reducible refine Below.alloc ?_ (by first | omega | (simp; omega) | simp) _) | (with_reducible refine Below.setCell ?_ (by first | omega | (simp; omega) | simp) _) | exact hb1))⟩
  · have h' : ¬ (l.length : Int) ≤ 30 := by omega
    rw [decide_eq_false h]
    go_enter Tryz.func188, Tryz.ntmps188
    go_wp2_with fail
    go_wp2
    go_ret
    exact ⟨by simp, (by repeat (first | with_reducible exact Below.refl _ _ | with_reducible apply below_drewN' | with_reducible apply Below.drew | (with_reducible refine Below.alloc ?_ (by first | omega | (simp; omega) | simp) _) | (with_reducible refine Below.setCell ?_ (by first | omega | (simp; omega) | simp) _) | exact Below.refl _ _))⟩
theorem specAreMoves_c (A : Option Addr) (c : Nat) (l : List Move) (w : World) (hl : l.length ≤ 140737488351232) (hs : Sl w w.heap.size 4 A (l.map Move.cells)) :
    Calls Tryz.prog 133 #[.slice A l.length c] w fun e w' => e = .returned (.bool (movesB l)) ∧ Below w.heap.size w w' := by
  have HC := Lib.hid (l12Code_c A c l w hl hs)
  have HR := Lib.hid (movesCode_eq l)
  generalize movesCode l = b at *
  go_enter Tryz.func133, Tryz.ntmps133
  go_wp2_with fail
  refine Calls.mono HC.out ?_; rintro e w1 ⟨rfl, hb1⟩
  go_wp2
  go_ret
  exact ⟨by rw [← HR.out]; rfl, (by repeat (first | with_reducible exact hb1 | with_reducible apply below_drewN' | with_reducible apply Below.drew | (with_reducible refine Below.alloc ?_ (by first | omega | (simp; omega) | simp) _) | (with_reducible refine Below.setCell ?_ (by first | omega | (simp; omega) | simp) _) | exact hb1))⟩
end Go.Proofs.YtgkobjpoeajkdaaGreat
namespace Go.Proofs.YtgkobjpoeajkdaaGreat
open Go.RowKit
/-- an answer's moves, as they lie in w -/
structure AnIn (w : World) (A : Option Addr) (c : Nat) (l : List Move) : Prop where
  n : l.length ≤ 1048576
  k : l.length ≤ c
  s : Sl w w.heap.size 4 A (l.map Move.cells)
theorem AnIn.later {w W : World} {A : Option Addr} {c : Nat} {l : List Move} (E : AnIn w A c l) (hW : Below w.heap.size w W) : AnIn W A c l := ⟨E.n, E.k, (E.s.below hW).more hW.size⟩
structure AnR where
  A : Option Addr
  c : Nat
  l : List Move
  a : Int
  b : Int
def AnR.cells (e : AnR) : List Value := [.slice e.A e.l.length e.c, .int .i64 e.a, .int .i64 e.b]
def AnR.agg (e : AnR) : Value := .agg #[.slice e.A e.l.length e.c, .int .i64 e.a, .int .i64 e.b]
def AnR.In (e : AnR) (w : World) : Prop := AnIn w e.A e.c e.l
/-- whether an answer is valid -/
def ansB (l : List Move) (a b : Int) : Bool := movesB l && figOK ⟨a, b⟩
def AnR.ok (e : AnR) : Bool := ansB e.l e.a e.b
structure AnsIn (w : World) (A : Option Addr) (es : List AnR) : Prop where
  n : es.length ≤ 1048576
  s : Sl w w.heap.size 3 A (es.map AnR.cells)
  i : ∀ e ∈ es, e.In w
theorem AnsIn.later {w W : World} {A : Option Addr} {es : List AnR} (h : AnsIn w A es) (hW : Below w.heap.size w W) : AnsIn W A es := ⟨h.n, (h.s.below hW).more hW.size, fun e he => AnIn.later (h.i e he) hW⟩
set_option maxRecDepth 100000 in
theorem isAnswer_c (A : Option Addr) (c : Nat) (l : List Move) (a b : Int) (w : World) (E : AnIn w A c l) :
    Calls Tryz.prog 138 #[.agg #[.slice A l.length c, .int .i64 a, .int .i64 b]] w fun e w' => e = .returned (.bool (ansB l a b)) ∧ Below w.heap.size w w' := by
  have hW : Below w.heap.size w (w.alloc (.cells #[.slice A l.length c, .int .i64 a, .int .i64 b] 67)) := (by repeat (first | with_reducible exact Below.refl _ _ | with_reducible apply below_drewN' | with_reducible apply Below.drew | (with_reducible refine Below.alloc ?_ (by first | omega | (simp; omega) | simp) _) | (with_reducible refine Below.setCell ?_ (by first | omega | (simp; omega) | simp) _) | exact Below.refl _ _))
  have HM := Lib.hid (areMoves_c A c l _ (by have := E.n; omega) (E.later hW).s)
  have HF0 := fun W => implIsFigure_c ⟨a, b⟩ W
  unfold Figure.agg at HF0
  have HF := fun W => Lib.hid (HF0 W)
  clear HF0 E
  have B1 := Blk.new w 67 #[.slice A l.length c, .int .i64 a, .int .i64 b]
  unfold ansB
  generalize figOK ⟨a, b⟩ = v at *
  generalize movesB l = u at *
  go_enter Tryz.func138, Tryz.ntmps138
  go_wp2_with fail
  refine Calls.mono HM.out ?_; rintro e w1 ⟨rfl, hb1⟩
  have C1 := B1.below hb1 B1.lt
  have y1 : w1.cell? ⟨w.heap.size, 1, none⟩ = some (.int .i64 a) := C1.cell 1
  have y2 : w1.cell? ⟨w.heap.size, 2, none⟩ = some (.int .i64 b) := C1.cell 2
  have hW1 := hW.trans (hb1.mono hW.size)
  clear HM hW B1 C1 hb1
  cases u
  · go_wp2
    go_ret
    exact ⟨rfl, (by repeat (first | with_reducible exact hW1 | with_reducible apply below_drewN' | with_reducible apply Below.drew | (with_reducible refine Below.alloc ?_ (by first | omega | (simp; omega) | simp) _) | (with_reducible refine Below.setCell ?_ (by first | omega | (simp; omega) | simp) _) | exact hW1))⟩
  · go_wp2_with (go_at_call 189; refine Calls.mono (HF _).out ?_; rintro e w2 ⟨rfl, hb2⟩; have hW2 := hW1.trans (hb2.mono hW1.size))
    go_ret
    exact ⟨rfl, (by repeat (first | with_reducible exact hW2 | with_reducible apply below_drewN' | with_reducible apply Below.drew | (with_reducible refine Below.alloc ?_ (by first | omega | (simp; omega) | simp) _) | (with_reducible refine Below.setCell ?_ (by first | omega | (simp; omega) | simp) _) | exact hW2))⟩
set_option maxRecDepth 100000 in
theorem l31Answer_c (A : Option Addr) (c : Nat) (l : List Move) (a b : Int) (w : World) (E : AnIn w A c l) :
    Calls Tryz.prog 86 #[.agg #[.slice A l.length c, .int .i64 a, .int .i64 b]] w fun e w' => e = .returned (.bool (ansB l a b)) ∧ Below w.heap.size w w' := by
  have hW : Below w.heap.size w (w.alloc (.cells #[.slice A l.length c, .int .i64 a, .int .i64 b] 67)) := (by repeat (first | with_reducible exact Below.refl _ _ | with_reducible apply below_drewN' | with_reducible apply Below.drew | (with_reducible refine Below.alloc ?_ (by first | omega | (simp; omega) | simp) _) | (with_reducible refine Below.setCell ?_ (by first | omega | (simp; omega) | simp) _) | exact Below.refl _ _))
  have HM := Lib.hid (specAreMoves_c A c l _ (by have := E.n; omega) (E.later hW).s)
  have HF0 := fun W => specIsFigure_c ⟨a, b⟩ W
  unfold Figure.agg at HF0
  have HF := fun W => Lib.hid (HF0 W)
  clear HF0 E
  have B1 := Blk.new w 67 #[.slice A l.length c, .int .i64 a, .int .i64 b]
  unfold ansB
  generalize figOK ⟨a, b⟩ = v at *
  generalize movesB l = u at *
  go_enter Tryz.func86, Tryz.ntmps86
  go_wp2_with fail
  refine Calls.mono HM.out ?_; rintro e w1 ⟨rfl, hb1⟩
  have C1 := B1.below hb1 B1.lt
  have y1 : w1.cell? ⟨w.heap.size, 1, none⟩ = some (.int .i64 a) := C1.cell 1
  have y2 : w1.cell? ⟨w.heap.size, 2, none⟩ = some (.int .i64 b) := C1.cell 2
  have hW1 := hW.trans (hb1.mono hW.size)
  clear HM hW B1 C1 hb1
  cases u
  · go_wp2
    go_ret
    exact ⟨rfl, (by repeat (first | with_reducible exact hW1 | with_reducible apply below_drewN' | with_reducible apply Below.drew | (with_reducible refine Below.alloc ?_ (by first | omega | (simp; omega) | simp) _) | (with_reducible refine Below.setCell ?_ (by first | omega | (simp; omega) | simp) _) | exact hW1))⟩
  · go_wp2_with (go_at_call 134; refine Calls.mono (HF _).out ?_; rintro e w2 ⟨rfl, hb2⟩; have hW2 := hW1.trans (hb2.mono hW1.size))
    go_ret
    exact ⟨rfl, (by repeat (first | with_reducible exact hW2 | with_reducible apply below_drewN' | with_reducible apply Below.drew | (with_reducible refine Below.alloc ?_ (by first | omega | (simp; omega) | simp) _) | (with_reducible refine Below.setCell ?_ (by first | omega | (simp; omega) | simp) _) | exact hW2))⟩
def PredAn (g : FuncId) (lb : Array Value) (o : AnR → Bool) (es : List AnR) (w : World) : Prop :=
  ∀ (x : AnR) (W : World), x ∈ es → Below w.heap.size w W → Calls Tryz.prog g (#[x.agg] ++ lb) W fun e w' => e = .returned (.bool (o x)) ∧ Below W.heap.size W w'
def IdxPostAn (o : AnR → Bool) (l : List AnR) (w : World) (e : Ending) (w' : World) : Prop :=
  ∃ r : Int, e = .returned (.int .i64 r) ∧ decide (0 ≤ r) = l.any o ∧ Below w.heap.size w w'
set_option maxRecDepth 100000 in
theorem indexFuncAn_c (A : Option Addr) (c : Nat) (l : List AnR) (g : FuncId) (lb : Array Value) (o : AnR → Bool) (w : World)
    (eg : ∀ args w, (callFunc g args).run Tryz.prog w = .ok (.enter g args) w) (hp : PredAn g lb o l w) (E : AnsIn w A l) :
    Calls Tryz.prog 187 #[.slice A l.length c, .func (.func g) #[] lb] w (IdxPostAn o l w) := by
  have hl := E.n
  have hs := E.s
  clear E
  go_enter Tryz.func187, Tryz.ntmps187
  go_wp2_with fail
  go_loopw [8] (fun i wr => ∃ k : Nat, k ≤ l.length ∧ i = .int .i64 k ∧ Below w.heap.size w wr ∧ Hid ((l.take k).any o = false)) (fun i _ => l.length - (intOf i).toNat)
  case atStart => exact ⟨0, Nat.zero_le _, rfl, Below.refl _ _, (show (l.take 0).any o = false from by simp)⟩
  case round =>
    obtain ⟨k, hk, rfl, hb, hn⟩ := hrel
    by_cases hlt : k < l.length
    · obtain ⟨b, off, rfl, hbB, hc⟩ := hs.at_ (i := k) (by simpa using hlt)
      simp only [List.getElem_map] at hc
      have c0 : wr.cell? ⟨b, off + k * 3, none⟩ = some (.slice l[k].A l[k].l.length l[k].c) := by rw [hb.cell hbB]; exact hc 0 _ rfl
      have c1 : wr.cell? ⟨b, off + k * 3 + 1, none⟩ = some (.int .i64 l[k].a) := by rw [hb.cell hbB]; exact hc 1 _ rfl
      have c2 : wr.cell? ⟨b, off + k * 3 + 2, none⟩ = some (.int .i64 l[k].b) := by rw [hb.cell hbB]; exact hc 2 _ rfl
      clear hc
      have hcall := hp l[k] wr (List.getElem_mem hlt) hb
      unfold AnR.agg at hcall
      have hnx : (l.take (k + 1)).any o = ((l.take k).any o || o l[k]) := by rw [List.take_succ_eq_append_getElem hlt, List.any_append]; simp
      have hnx := Lib.hid hnx
      have hmem : Hid (l[k] ∈ l) := List.getElem_mem hlt
      clear hp
      generalize l[k] = ek at *
      cases hq : o ek with
      | true =>
        have hq' := Lib.hid hq
        rw [hq] at hcall
        have hcall := Lib.hid hcall
        clear hq
        go_wp2_with (go_at_fn g; refine hcall.out.mono ?_; rintro e w1 ⟨rfl, hb1⟩)
        go_ret
        refine ⟨k, rfl, ?_, hb.trans (hb1.mono hb.size)⟩
        rw [show l.any o = true from List.any_eq_true.2 ⟨ek, hmem.out, hq'.out⟩]
        simp
      | false =>
        have hq' := Lib.hid hq
        rw [hq] at hcall
        have hcall := Lib.hid hcall
        clear hq
        go_wp2_with (go_at_fn g; refine hcall.out.mono ?_; rintro e w1 ⟨rfl, hb1⟩)
        go_roundw
        case rel => exact ⟨k + 1, by omega, by go_num, hb.trans (hb1.mono hb.size), (show _ = false from by rw [hnx.out, hn.out, hq'.out]; rfl)⟩
        case measure => simp [intOf]; omega
    · have : k = l.length := by omega
      subst this
      go_wp2
      go_ret
      refine ⟨-1, rfl, ?_, hb⟩
      have := hn.out
      rw [List.take_length] at this
      rw [this]
      rfl
theorem containsFuncAn_c (A : Option Addr) (c : Nat) (l : List AnR) (g : FuncId) (lb : Array Value) (o : AnR → Bool) (w : World)
    (eg : ∀ args w, (callFunc g args).run Tryz.prog w = .ok (.enter g args) w) (hp : PredAn g lb o l w) (E : AnsIn w A l) :
    Calls Tryz.prog 136 #[.slice A l.length c, .func (.func g) #[] lb] w fun e w' => e = .returned (.bool (l.any o)) ∧ Below w.heap.size w w' := by
  have H := Lib.hid (indexFuncAn_c A c l g lb o w eg hp E)
  clear hp E eg
  go_enter Tryz.func136, Tryz.ntmps136
  go_wp2_with fail
  refine H.out.mono ?_
  rintro e w1 ⟨r, rfl, hr, hb⟩
  go_wp2
  go_ret
  exact ⟨rfl, hb⟩
set_option maxRecDepth 100000 in
theorem ansPred (es : List AnR) (w : World) (hi : ∀ e ∈ es, e.In w) : PredAn 137 #[] (fun e => !e.ok) es w := by
  intro x W hx hW
  have HX := fun (W' : World) (h : Below W.heap.size W W') => Lib.hid (isAnswer_c x.A x.c x.l x.a x.b W' (AnIn.later (AnIn.later (hi x hx) hW) h))
  clear hi hx hW
  obtain ⟨A, c, l, a, b⟩ := x
  show Calls _ _ _ _ _
  unfold AnR.agg AnR.ok
  simp only at HX ⊢
  have hW : Below W.heap.size W (W.alloc (.cells #[.slice A l.length c, .int .i64 a, .int .i64 b] 67)) := (by repeat (first | with_reducible exact Below.refl _ _ | with_reducible apply below_drewN' | with_reducible apply Below.drew | (with_reducible refine Below.alloc ?_ (by first | omega | (simp; omega) | simp) _) | (with_reducible refine Below.setCell ?_ (by first | omega | (simp; omega) | simp) _) | exact Below.refl _ _))
  generalize ansB l a b = bb at *
  go_enter Tryz.func137, Tryz.ntmps137
  go_wp2_with fail
  generalize W.alloc (.cells #[.slice A l.length c, .int .i64 a, .int .i64 b] 67) = W1 at *
  refine Calls.mono (HX W1 hW).out ?_; rintro e w1 ⟨rfl, hb1⟩
  have hv := hW.trans (hb1.mono hW.size)
  go_wp2
  go_ret
  exact ⟨rfl, (by repeat (first | with_reducible exact hv | with_reducible apply below_drewN' | with_reducible apply Below.drew | (with_reducible refine Below.alloc ?_ (by first | omega | (simp; omega) | simp) _) | (with_reducible refine Below.setCell ?_ (by first | omega | (simp; omega) | simp) _) | exact hv))⟩
set_option maxRecDepth 100000 in
theorem checkAnswer_c (L : Int) (A1 : Option Addr) (c1 : Nat) (l1 : List Int) (A2 : Option Addr) (c2 : Nat) (l2 : List Int) (A3 : Option Addr) (c3 : Nat) (l3 : List Term) (p q r : Int) (A : Option Addr) (c : Nat) (es : List AnR) (w : World) (E : ExIn w A1 c1 l1 A2 c2 l2 A3 c3 l3) (F : AnsIn w A es) :
    Calls Tryz.prog 90 #[.agg #[.int .i64 L, .slice A1 l1.length c1, .slice A2 l2.length c2, .slice A3 l3.length c3, .int .i64 p, .int .i64 q, .int .i64 r], .slice A es.length c] w fun e w' => e = .returned (.int .i64 (if (exB L l1 l2 l3 p q r && es.all AnR.ok) = true then 0 else 1)) ∧ Below w.heap.size w w' := by
  have hW : Below w.heap.size w (w.alloc (.cells #[.int .i64 L, .slice A1 l1.length c1, .slice A2 l2.length c2, .slice A3 l3.length c3, .int .i64 p, .int .i64 q, .int .i64 r] 36)) := (by repeat (first | with_reducible exact Below.refl _ _ | with_reducible apply below_drewN' | with_reducible apply Below.drew | (with_reducible refine Below.alloc ?_ (by first | omega | (simp; omega) | simp) _) | (with_reducible refine Below.setCell ?_ (by first | omega | (simp; omega) | simp) _) | exact Below.refl _ _))
  have HX := Lib.hid (implIsExercise_c L A1 c1 l1 A2 c2 l2 A3 c3 l3 p q r _ (E.later hW))
  have hall : es.any (fun e => !e.ok) = !(es.all AnR.ok) := by rw [List.any_eq_not_all_not]; simp
  have HC : Hid (∀ W, Below w.heap.size w W → Calls Tryz.prog 136 #[.slice A es.length c, .func (.func 137) #[] #[]] W fun e w' => e = .returned (.bool (!(es.all AnR.ok))) ∧ Below W.heap.size W w') := fun W hW => by
    have F' := F.later hW
    have hcall := containsFuncAn_c A c es 137 #[] (fun e => !e.ok) W (enters_of Tryz.func137 (by kernel_rfl) rfl) (ansPred es W F'.i) F'
    rw [hall] at hcall
    exact hcall
  clear E F hall
  generalize es.all AnR.ok = v at *
  generalize exB L l1 l2 l3 p q r = u at *
  cases u
  · go_enter Tryz.func90, Tryz.ntmps90
    go_wp2_with fail
    refine Calls.mono HX.out ?_; rintro e w1 ⟨rfl, hb1⟩
    have hW1 := hW.trans (hb1.mono hW.size)
    go_wp2
    go_ret
    exact ⟨rfl, (by repeat (first | with_reducible exact hW1 | with_reducible apply below_drewN' | with_reducible apply Below.drew | (with_reducible refine Below.alloc ?_ (by first | omega | (simp; omega) | simp) _) | (with_reducible refine Below.setCell ?_ (by first | omega | (simp; omega) | simp) _) | exact hW1))⟩
  · cases v
    all_goals
      go_enter Tryz.func90, Tryz.ntmps90
      go_wp2_with fail
      refine Calls.mono HX.out ?_; rintro e w1 ⟨rfl, hb1⟩
      have hW1 := hW.trans (hb1.mono hW.size)
      go_wp2_with fail
      refine Calls.mono (HC.out _ hW1) ?_; rintro e w2 ⟨rfl, hb2⟩
      have hW2 := hW1.trans (hb2.mono hW1.size)
      go_wp2
      go_ret
      exact ⟨rfl, (by repeat (first | with_reducible exact hW2 | with_reducible apply below_drewN' | with_reducible apply Below.drew | (with_reducible refine Below.alloc ?_ (by first | omega | (simp; omega) | simp) _) | (with_reducible refine Below.setCell ?_ (by first | omega | (simp; omega) | simp) _) | exact hW2))⟩
end Go.Proofs.YtgkobjpoeajkdaaGreat
namespace Go.Proofs.YtgkobjpoeajkdaaGreat
open Go.RowKit
/-- how many moves at the head of both lists are alike -/
def stepN : List Move → List Move → Nat
  | x :: xs, y :: ys => if x = y then stepN xs ys + 1 else 0
  | _, _ => 0
theorem stepN_eq : ∀ {ms l : List Move} {k : Nat}, k ≤ ms.length → k ≤ l.length → (∀ j, j < k → ms[j]? = l[j]?) → (k = ms.length ∨ k = l.length ∨ ∃ x y, ms[k]? = some x ∧ l[k]? = some y ∧ x ≠ y) → stepN ms l = k
  | [], l, k, h1, _, _, _ => by
    have : k = 0 := by simpa using h1
    subst this
    unfold stepN
    cases l <;> rfl
  | x :: xs, [], k, _, h2, _, _ => by
    have : k = 0 := by simpa using h2
    subst this
    rfl
  | x :: xs, y :: ys, 0, _, _, _, he => by
    unfold stepN
    rcases he with he | he | ⟨a, b, ha, hb, hn⟩
    · simp at he
    · simp at he
    · simp at ha hb
      subst ha
      subst hb
      rw [if_neg hn]
  | x :: xs, y :: ys, k + 1, h1, h2, h, he => by
    have h0 := h 0 (by omega)
    simp at h0
    unfold stepN
    rw [if_pos h0, stepN_eq (k := k) (by simpa using h1) (by simpa using h2) (fun j hj => by have := h (j + 1) (by omega); simpa using this) (by simpa using he)]
theorem stepN_le : ∀ {ms l : List Move}, stepN ms l ≤ ms.length ∧ stepN ms l ≤ l.length
  | [], l => by unfold stepN; cases l <;> simp
  | x :: xs, [] => by simp [stepN]
  | x :: xs, y :: ys => by
    unfold stepN
    have := stepN_le (ms := xs) (l := ys)
    split
    · simp; omega
    · simp
theorem mvEq_eq (x y : Move) : (decide (x.kind = y.kind) && (decide (x.scale = y.scale) && ((decide (x.digits = y.digits) && (decide (x.tens = y.tens) && true)) && true))) = decide (x = y) := by
  obtain ⟨a, b, c, d⟩ := x
  obtain ⟨a', b', c', d'⟩ := y
  rw [Bool.eq_iff_iff]
  simp
theorem ex_usual {w : World} {L : Int} {A1 : Option Addr} {c1 : Nat} {l1 : List Int} {A2 : Option Addr} {c2 : Nat} {l2 : List Int} {A3 : Option Addr} {c3 : Nat} {l3 : List Term} {p q r : Int} (h : exB L l1 l2 l3 p q r = true) (E : ExIn w A1 c1 l1 A2 c2 l2 A3 c3 l3) : RuleIn w A1 l1 A2 l2 ∧ 0 < l3.length ∧ l3.length ≤ 6 ∧ l3.all termOK = true := by
  unfold exB at h
  have hc : exCode L l1 l2 l3 p q r = 0 := by simpa using h
  by_cases hb : boundCode L l1 l2 l3 p q r = 0
  · obtain ⟨b1, b2, b3, b4, b5⟩ := bound_parts hb
    obtain ⟨k1, k2, k3, k4⟩ := chainB_parts b2
    exact ⟨ExIn.rule E b3 b4, k1, k2, k3⟩
  · rw [(ex_bad hb).2.2] at hc
    exact absurd hc hb
set_option maxRecDepth 100000 in
set_option maxHeartbeats 2000000 in
theorem stepOf_c (L : Int) (A1 : Option Addr) (c1 : Nat) (l1 : List Int) (A2 : Option Addr) (c2 : Nat) (l2 : List Int) (A3 : Option Addr) (c3 : Nat) (l3 : List Term) (p q r : Int) (A : Option Addr) (c : Nat) (l : List Move) (a b : Int) (w : World) (E : ExIn w A1 c1 l1 A2 c2 l2 A3 c3 l3) (hx : exB L l1 l2 l3 p q r = true) (F : AnIn w A c l) :
    Calls Tryz.prog 91 #[.agg #[.int .i64 L, .slice A1 l1.length c1, .slice A2 l2.length c2, .slice A3 l3.length c3, .int .i64 p, .int .i64 q, .int .i64 r], .agg #[.slice A l.length c, .int .i64 a, .int .i64 b]] w fun e w' => (∃ A' c', e = .returned (.tuple #[.int .i64 (stepN (usualP l3).ms l), .slice A' (usualP l3).ms.length c']) ∧ (usualP l3).ms.length ≤ c' ∧ Sl w' w'.heap.size 4 A' ((usualP l3).ms.map Move.cells)) ∧ Below w.heap.size w w' := by
  have hGt : Tryz.prog.eqGuardType Tryz.prog.depth 72 = false := by kernel_rfl
  have hW0 : Below w.heap.size w ((w.alloc (.cells #[.int .i64 L, .slice A1 l1.length c1, .slice A2 l2.length c2, .slice A3 l3.length c3, .int .i64 p, .int .i64 q, .int .i64 r] 36)).alloc (.cells #[.slice A l.length c, .int .i64 a, .int .i64 b] 67)) := (by repeat (first | with_reducible exact Below.refl _ _ | with_reducible apply below_drewN' | with_reducible apply Below.drew | (with_reducible refine Below.alloc ?_ (by first | omega | (simp; omega) | simp) _) | (with_reducible refine Below.setCell ?_ (by first | omega | (simp; omega) | simp) _) | exact Below.refl _ _))
  have B0 := Blk.new' (w.alloc (.cells #[.int .i64 L, .slice A1 l1.length c1, .slice A2 l2.length c2, .slice A3 l3.length c3, .int .i64 p, .int .i64 q, .int .i64 r] 36)) 67 #[.slice A l.length c, .int .i64 a, .int .i64 b] (g := w.heap.size + 1) (by simp)
  obtain ⟨R, r1, r2, r3⟩ := ex_usual hx E
  have hms : (usualP l3).ms.length ≤ 19 := (usual_ok r1 r2 r3).2
  have HU := Lib.hid (usualPlan_c L A1 c1 l1 A2 c2 l2 A3 c3 l3 _ (R.later hW0) r1 r2 E.k3 r3 (E.later hW0).s3)
  have hl := F.n
  have F0 := F.later hW0
  clear E R r1 r2 r3 hx F
  generalize (usualP l3).ms = ms at *
  go_enter Tryz.func91, Tryz.ntmps91
  go_wp2_with fail
  generalize ((w.alloc (.cells #[.int .i64 L, .slice A1 l1.length c1, .slice A2 l2.length c2, .slice A3 l3.length c3, .int .i64 p, .int .i64 q, .int .i64 r] 36)).alloc (.cells #[.slice A l.length c, .int .i64 a, .int .i64 b] 67)) = W at *
  refine Calls.mono HU.out ?_; rintro e w1 ⟨A', c', rfl, hO, hb1⟩; have hs' := hO.sl; have hk' := hO.le_cap; clear hO
  have hW1 := hW0.trans (hb1.mono hW0.size)
  have B1 := B0.below hb1 B0.lt
  have F1 := F0.later hb1
  clear HU hW0 B0 F0 hb1
  have hba : Below w1.heap.size w1 (w1.alloc (.cells #[.int .i64 (usualP l3).sh, .int .i64 (usualP l3).cu] 110)) := (Below.refl _ _).alloc (Nat.le_refl _) _
  have hW2 := hW1.trans (hba.mono hW1.size)
  have B2 := B1.below hba B1.lt
  have hs' := (hs'.below hba).more hba.size
  have F2 := F1.later hba
  clear hW1 B1 F1 hba
  go_wp2_with fail
  generalize w1.alloc (.cells #[.int .i64 (usualP l3).sh, .int .i64 (usualP l3).cu] 110) = w2 at *
  have hs := F2.s
  have hgB := B2.lt
  have y0 : w2.cell? ⟨w.heap.size + 1, 0, none⟩ = some (.slice A l.length c) := B2.cell 0
  clear B2 F2
  go_loopw [8] (fun i wr => ∃ k : Nat, k ≤ ms.length ∧ k ≤ l.length ∧ i = .int .i64 k ∧ Below w2.heap.size w2 wr ∧ Hid (∀ j, j < k → ms[j]? = l[j]?)) (fun i _ => ms.length - (intOf i).toNat)
  case atStart => exact ⟨0, Nat.zero_le _, Nat.zero_le _, rfl, Below.refl _ _, fun j h => by omega⟩
  case round =>
    obtain ⟨k, hk1, hk2, rfl, hb, hn⟩ := hrel
    have x0 : wr.cell? ⟨w.heap.size + 1, 0, none⟩ = some (.slice A l.length c) := by rw [hb.cell hgB]; exact y0
    have hWr := hW2.trans (hb.mono hW2.size)
    have k0 : (0 : Int) ≤ (k : Int) := by omega
    have HSr : Sl wr wr.heap.size 4 A' (ms.map Move.cells) := (hs'.below hb).more hb.size
    by_cases h1 : k < ms.length
    · have i1 : (k : Int) < (ms.length : Int) := by omega
      by_cases h2 : k < l.length
      · have i2 : (k : Int) < (l.length : Int) := by omega
        obtain ⟨b2, off2, rfl, b2B, hc2⟩ := hs.at_ (i := k) (by simpa using h2)
        obtain ⟨b1, off1, rfl, b1B, hc1⟩ := hs'.at_ (i := k) (by simpa using h1)
        simp only [List.getElem_map] at hc1 hc2
        have m0 : wr.cell? ⟨b1, off1 + k * 4, none⟩ = some (.int .i64 ms[k].kind) := by rw [hb.cell b1B]; exact hc1 0 _ rfl
        have m1 : wr.cell? ⟨b1, off1 + k * 4 + 1, none⟩ = some (.int .i64 ms[k].scale) := by rw [hb.cell b1B]; exact hc1 1 _ rfl
        have m2 : wr.cell? ⟨b1, off1 + k * 4 + 2, none⟩ = some (.int .i64 ms[k].digits) := by rw [hb.cell b1B]; exact hc1 2 _ rfl
        have m3 : wr.cell? ⟨b1, off1 + k * 4 + 3, none⟩ = some (.int .i64 ms[k].tens) := by rw [hb.cell b1B]; exact hc1 3 _ rfl
        have n0 : wr.cell? ⟨b2, off2 + k * 4, none⟩ = some (.int .i64 l[k].kind) := by rw [hb.cell b2B]; exact hc2 0 _ rfl
        have n1 : wr.cell? ⟨b2, off2 + k * 4 + 1, none⟩ = some (.int .i64 l[k].scale) := by rw [hb.cell b2B]; exact hc2 1 _ rfl
        have n2 : wr.cell? ⟨b2, off2 + k * 4 + 2, none⟩ = some (.int .i64 l[k].digits) := by rw [hb.cell b2B]; exact hc2 2 _ rfl
        have n3 : wr.cell? ⟨b2, off2 + k * 4 + 3, none⟩ = some (.int .i64 l[k].tens) := by rw [hb.cell b2B]; exact hc2 3 _ rfl
        clear hc1 hc2
        have HQ := fun W => eqMov ms[k].kind ms[k].scale ms[k].digits ms[k].tens l[k].kind l[k].scale l[k].digits l[k].tens W
        rw [mvEq_eq] at HQ
        have e1 : Hid (ms[k]? = some ms[k]) := List.getElem?_eq_getElem h1
        have e2 : Hid (l[k]? = some l[k]) := List.getElem?_eq_getElem h2
        generalize ms[k] = x at *
        generalize l[k] = y at *
        by_cases he : x = y
        · have hN : Hid (∀ j, j < k + 1 → ms[j]? = l[j]?) := fun j hj => by
            by_cases hjk : j < k
            · exact hn.out j hjk
            · obtain rfl : j = k := by omega
              rw [e1.out, e2.out, he]
          rw [decide_eq_true he] at HQ
          clear he e1 e2
          go_wp2_with fail
          go_quiet (fail)
          go_wp2
          go_roundw
          case rel => exact ⟨k + 1, by omega, by omega, by go_num, (by first | exact below_drewN' hb _ | exact hb.drew), hN⟩
          case measure => simp [intOf]; omega
        · have hst : Hid (stepN ms l = k) := stepN_eq hk1 hk2 hn.out (.inr (.inr ⟨x, y, e1.out, e2.out, he⟩))
          rw [decide_eq_false he] at HQ
          clear he e1 e2
          go_wp2_with fail
          go_quiet (fail)
          go_wp2
          refine bodyPost_ret (v := .tuple #[.int .i64 k, .slice _ ms.length c']) (by simp [results, Tryz.results91, go_sem]; rfl) rfl ⟨⟨_, c', by rw [hst.out], hk', by first | exact HSr | exact HSr.drewN _⟩, (by repeat (first | with_reducible exact hWr | with_reducible apply below_drewN' | with_reducible apply Below.drew | (with_reducible refine Below.alloc ?_ (by first | omega | (simp; omega) | simp) _) | (with_reducible refine Below.setCell ?_ (by first | omega | (simp; omega) | simp) _) | exact hWr))⟩
      · have hst : Hid (stepN ms l = k) := stepN_eq hk1 hk2 hn.out (.inr (.inl (by omega)))
        have hd2 : decide ((k : Int) < (l.length : Int)) = false := decide_eq_false (by omega)
        go_wp2_with fail
        go_quiet (fail)
        go_wp2
        refine bodyPost_ret (v := .tuple #[.int .i64 k, .slice _ ms.length c']) (by simp [results, Tryz.results91, go_sem]; rfl) rfl ⟨⟨_, c', by rw [hst.out], hk', by first | exact HSr | exact HSr.drewN _⟩, (by repeat (first | with_reducible exact hWr | with_reducible apply below_drewN' | with_reducible apply Below.drew | (with_reducible refine Below.alloc ?_ (by first | omega | (simp; omega) | simp) _) | (with_reducible refine Below.setCell ?_ (by first | omega | (simp; omega) | simp) _) | exact hWr))⟩
    · have hst : Hid (stepN ms l = k) := stepN_eq hk1 hk2 hn.out (.inl (by omega))
      have hd1 : decide ((k : Int) < (ms.length : Int)) = false := decide_eq_false (by omega)
      go_wp2_with fail
      go_quiet (fail)
      go_wp2
      refine bodyPost_ret (v := .tuple #[.int .i64 k, .slice _ ms.length c']) (by simp [results, Tryz.results91, go_sem]; rfl) rfl ⟨⟨_, c', by rw [hst.out], hk', by first | exact HSr | exact HSr.drewN _⟩, (by repeat (first | with_reducible exact hWr | with_reducible apply below_drewN' | with_reducible apply Below.drew | (with_reducible refine Below.alloc ?_ (by first | omega | (simp; omega) | simp) _) | (with_reducible refine Below.setCell ?_ (by first | omega | (simp; omega) | simp) _) | exact hWr))⟩
set_option maxRecDepth 100000 in
set_option maxHeartbeats 2000000 in
theorem l31Step_c (L : Int) (A1 : Option Addr) (c1 : Nat) (l1 : List Int) (A2 : Option Addr) (c2 : Nat) (l2 : List Int) (A3 : Option Addr) (c3 : Nat) (l3 : List Term) (p q r : Int) (A : Option Addr) (c : Nat) (l : List Move) (a b : Int) (w : World) (E : ExIn w A1 c1 l1 A2 c2 l2 A3 c3 l3) (hx : exB L l1 l2 l3 p q r = true) (F : AnIn w A c l) :
    Calls Tryz.prog 87 #[.agg #[.int .i64 L, .slice A1 l1.length c1, .slice A2 l2.length c2, .slice A3 l3.length c3, .int .i64 p, .int .i64 q, .int .i64 r], .agg #[.slice A l.length c, .int .i64 a, .int .i64 b]] w fun e w' => e = .returned (.int .i64 (stepN (usualP l3).ms l)) ∧ Below w.heap.size w w' := by
  have hGt : Tryz.prog.eqGuardType Tryz.prog.depth 72 = false := by kernel_rfl
  have hW0 : Below w.heap.size w ((w.alloc (.cells #[.int .i64 L, .slice A1 l1.length c1, .slice A2 l2.length c2, .slice A3 l3.length c3, .int .i64 p, .int .i64 q, .int .i64 r] 36)).alloc (.cells #[.slice A l.length c, .int .i64 a, .int .i64 b] 67)) := (by repeat (first | with_reducible exact Below.refl _ _ | with_reducible apply below_drewN' | with_reducible apply Below.drew | (with_reducible refine Below.alloc ?_ (by first | omega | (simp; omega) | simp) _) | (with_reducible refine Below.setCell ?_ (by first | omega | (simp; omega) | simp) _) | exact Below.refl _ _))
  have B0 := Blk.new' (w.alloc (.cells #[.int .i64 L, .slice A1 l1.length c1, .slice A2 l2.length c2, .slice A3 l3.length c3, .int .i64 p, .int .i64 q, .int .i64 r] 36)) 67 #[.slice A l.length c, .int .i64 a, .int .i64 b] (g := w.heap.size + 1) (by simp)
  obtain ⟨R, r1, r2, r3⟩ := ex_usual hx E
  have hms : (usualP l3).ms.length ≤ 19 := (usual_ok r1 r2 r3).2
  have HU := Lib.hid (l14Usual_c L A1 c1 l1 A2 c2 l2 A3 c3 l3 _ (R.later hW0) r1 r2 r3 (E.later hW0).s3)
  have hl := F.n
  have F0 := F.later hW0
  clear E R r1 r2 r3 hx F
  generalize (usualP l3).ms = ms at *
  go_enter Tryz.func87, Tryz.ntmps87
  go_wp2_with fail
  generalize ((w.alloc (.cells #[.int .i64 L, .slice A1 l1.length c1, .slice A2 l2.length c2, .slice A3 l3.length c3, .int .i64 p, .int .i64 q, .int .i64 r] 36)).alloc (.cells #[.slice A l.length c, .int .i64 a, .int .i64 b] 67)) = W at *
  refine Calls.mono HU.out ?_; rintro e w1 ⟨A', c', rfl, hs', hb1⟩
  have hW1 := hW0.trans (hb1.mono hW0.size)
  have B1 := B0.below hb1 B0.lt
  have F1 := F0.later hb1
  clear HU hW0 B0 F0 hb1
  have hW2 := hW1
  have B2 := B1
  have F2 := F1
  clear hW1 B1 F1
  generalize w1 = w2 at *
  go_wp2_with fail
  have hs := F2.s
  have hgB := B2.lt
  have y0 : w2.cell? ⟨w.heap.size + 1, 0, none⟩ = some (.slice A l.length c) := B2.cell 0
  clear B2 F2
  go_loopw [6] (fun i wr => ∃ k : Nat, k ≤ ms.length ∧ k ≤ l.length ∧ i = .int .i64 k ∧ Below w2.heap.size w2 wr ∧ Hid (∀ j, j < k → ms[j]? = l[j]?)) (fun i _ => ms.length - (intOf i).toNat)
  case atStart => exact ⟨0, Nat.zero_le _, Nat.zero_le _, rfl, Below.refl _ _, fun j h => by omega⟩
  case round =>
    obtain ⟨k, hk1, hk2, rfl, hb, hn⟩ := hrel
    have x0 : wr.cell? ⟨w.heap.size + 1, 0, none⟩ = some (.slice A l.length c) := by rw [hb.cell hgB]; exact y0
    have hWr := hW2.trans (hb.mono hW2.size)
    have k0 : (0 : Int) ≤ (k : Int) := by omega
    have HSr : Sl wr wr.heap.size 4 A' (ms.map Move.cells) := (hs'.below hb).more hb.size
    by_cases h1 : k < ms.length
    · have i1 : (k : Int) < (ms.length : Int) := by omega
      by_cases h2 : k < l.length
      · have i2 : (k : Int) < (l.length : Int) := by omega
        obtain ⟨b2, off2, rfl, b2B, hc2⟩ := hs.at_ (i := k) (by simpa using h2)
        obtain ⟨b1, off1, rfl, b1B, hc1⟩ := hs'.at_ (i := k) (by simpa using h1)
        simp only [List.getElem_map] at hc1 hc2
        have m0 : wr.cell? ⟨b1, off1 + k * 4, none⟩ = some (.int .i64 ms[k].kind) := by rw [hb.cell b1B]; exact hc1 0 _ rfl
        have m1 : wr.cell? ⟨b1, off1 + k * 4 + 1, none⟩ = some (.int .i64 ms[k].scale) := by rw [hb.cell b1B]; exact hc1 1 _ rfl
        have m2 : wr.cell? ⟨b1, off1 + k * 4 + 2, none⟩ = some (.int .i64 ms[k].digits) := by rw [hb.cell b1B]; exact hc1 2 _ rfl
        have m3 : wr.cell? ⟨b1, off1 + k * 4 + 3, none⟩ = some (.int .i64 ms[k].tens) := by rw [hb.cell b1B]; exact hc1 3 _ rfl
        have n0 : wr.cell? ⟨b2, off2 + k * 4, none⟩ = some (.int .i64 l[k].kind) := by rw [hb.cell b2B]; exact hc2 0 _ rfl
        have n1 : wr.cell? ⟨b2, off2 + k * 4 + 1, none⟩ = some (.int .i64 l[k].scale) := by rw [hb.cell b2B]; exact hc2 1 _ rfl
        have n2 : wr.cell? ⟨b2, off2 + k * 4 + 2, none⟩ = some (.int .i64 l[k].digits) := by rw [hb.cell b2B]; exact hc2 2 _ rfl
        have n3 : wr.cell? ⟨b2, off2 + k * 4 + 3, none⟩ = some (.int .i64 l[k].tens) := by rw [hb.cell b2B]; exact hc2 3 _ rfl
        clear hc1 hc2
        have HQ := fun W => eqMov ms[k].kind ms[k].scale ms[k].digits ms[k].tens l[k].kind l[k].scale l[k].digits l[k].tens W
        rw [mvEq_eq] at HQ
        have e1 : Hid (ms[k]? = some ms[k]) := List.getElem?_eq_getElem h1
        have e2 : Hid (l[k]? = some l[k]) := List.getElem?_eq_getElem h2
        generalize ms[k] = x at *
        generalize l[k] = y at *
        by_cases he : x = y
        · have hN : Hid (∀ j, j < k + 1 → ms[j]? = l[j]?) := fun j hj => by
            by_cases hjk : j < k
            · exact hn.out j hjk
            · obtain rfl : j = k := by omega
              rw [e1.out, e2.out, he]
          rw [decide_eq_true he] at HQ
          clear he e1 e2
          go_wp2_with fail
          go_quiet (fail)
          go_wp2
          go_roundw
          case rel => exact ⟨k + 1, by omega, by omega, by go_num, (by first | exact below_drewN' hb _ | exact hb.drew), hN⟩
          case measure => simp [intOf]; omega
        · have hst : Hid (stepN ms l = k) := stepN_eq hk1 hk2 hn.out (.inr (.inr ⟨x, y, e1.out, e2.out, he⟩))
          rw [decide_eq_false he] at HQ
          clear he e1 e2
          go_wp2_with fail
          go_quiet (fail)
          go_wp2
          (go_ret; exact ⟨by rw [hst.out]; rfl, (by repeat (first | with_reducible exact hWr | with_reducible apply below_drewN' | with_reducible apply Below.drew | (with_reducible refine Below.alloc ?_ (by first | omega | (simp; omega) | simp) _) | (with_reducible refine Below.setCell ?_ (by first | omega | (simp; omega) | simp) _) | exact hWr))⟩)
      · have hst : Hid (stepN ms l = k) := stepN_eq hk1 hk2 hn.out (.inr (.inl (by omega)))
        have hd2 : decide ((k : Int) < (l.length : Int)) = false := decide_eq_false (by omega)
        go_wp2_with fail
        go_quiet (fail)
        go_wp2
        (go_ret; exact ⟨by rw [hst.out]; rfl, (by repeat (first | with_reducible exact hWr | with_reducible apply below_drewN' | with_reducible apply Below.drew | (with_reducible refine Below.alloc ?_ (by first | omega | (simp; omega) | simp) _) | (with_reducible refine Below.setCell ?_ (by first | omega | (simp; omega) | simp) _) | exact hWr))⟩)
    · have hst : Hid (stepN ms l = k) := stepN_eq hk1 hk2 hn.out (.inl (by omega))
      have hd1 : decide ((k : Int) < (ms.length : Int)) = false := decide_eq_false (by omega)
      go_wp2_with fail
      go_quiet (fail)
      go_wp2
      (go_ret; exact ⟨by rw [hst.out]; rfl, (by repeat (first | with_reducible exact hWr | with_reducible apply below_drewN' | with_reducible apply Below.drew | (with_reducible refine Below.alloc ?_ (by first | omega | (simp; omega) | simp) _) | (with_reducible refine Below.setCell ?_ (by first | omega | (simp; omega) | simp) _) | exact hWr))⟩)
end Go.Proofs.YtgkobjpoeajkdaaGreat
