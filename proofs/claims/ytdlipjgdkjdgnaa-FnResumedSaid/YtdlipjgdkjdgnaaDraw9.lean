/- The draws of the engraving's law. Condition: the code has at most 4096 bytes. -/
import Derived.Test.YtdlipjgdkjdgnaaDraw8
import Derived.Test.YtdlipjgdkjdgnaaSortS
import Derived.Test.YtdlipjgdkjdgnaaEng2
namespace Go.Proofs.Ytdlipjgdkjdgnaa
open Go.RowKit
theorem flat_set1R {xs : List (List Value)} {k i j : Nat} {u : Value} (h : ∀ x ∈ xs, x.length = k) (hi : i < xs.length) (hj : j < k) : xs.flatten.set (i * k + j) u = (xs.set i (xs[i].set j u)).flatten := by
  rw [flat_set hi]
  conv => lhs; rw [flat_split hi]
  have hA : (xs.take i).flatten.length = i * k := by
    rw [flat_length fun z hz => h z (List.mem_of_mem_take hz), List.length_take, Nat.min_eq_left (by omega)]
  have hx : xs[i].length = k := h _ (List.getElem_mem hi)
  rw [List.append_assoc, List.set_append_right _ _ (by omega), hA, show i * k + j - i * k = j from by omega, List.set_append_left _ _ (by omega)]
  rw [List.append_assoc]
theorem Own.set1R {w : World} {base : Nat} {e : TypeId} {k g n cap : Nat} {xs : List (List Value)} (h : Own w base e k (.slice (some ⟨g, 0, none⟩) n cap) xs) {i j : Nat} (hi : i < xs.length) (hj : j < k) (u : Value) :
    Own (w.setCell ⟨g, i * k + j, none⟩ u) base e k (.slice (some ⟨g, 0, none⟩) n cap) (xs.set i (xs[i].set j u)) := by
  obtain ⟨h1, h2⟩ := h
  have hn : n = xs.length := by
    rcases h1.2 with ⟨h', _⟩ | ⟨g', cap', cur, h', _⟩
    · simp at h'
    · simp only [Value.slice.injEq] at h'; exact h'.2.1
  subst hn
  refine ⟨?_, fun y hy => ?_⟩
  · have := (h1.stored (i * k + j) u).1
    rw [flat_set1R h2 hi hj] at this
    rw [List.length_set]
    exact this
  · rcases List.mem_or_eq_of_mem_set hy with h | rfl
    · exact h2 y h
    · rw [List.length_set]; exact h2 _ (List.getElem_mem hi)
theorem set_place {w : World} {base g n cap : Nat} (L : List Stroke) (hi : 0 < L.length) (h : Own w base 91 3 (.slice (some ⟨g, 0, none⟩) n cap) (L.map Stroke.cells)) (m : Int) :
    Own (w.setCell ⟨g, 1, none⟩ (.int .i64 m)) base 91 3 (.slice (some ⟨g, 0, none⟩) n cap) ((L.set 0 ⟨L[0].tool, m, L[0].long⟩).map Stroke.cells) := by
  have h1 := h.set1R (i := 0) (j := 1) (by simpa using hi) (by omega) (.int .i64 m)
  have e : ((L.set 0 ⟨L[0].tool, m, L[0].long⟩).map Stroke.cells) = (L.map Stroke.cells).set 0 ((L.map Stroke.cells)[0]'(by simpa using hi) |>.set 1 (.int .i64 m)) := by
    rw [List.map_set]
    congr 1
    rw [List.getElem_map]
    rfl
  rw [e]
  simpa using h1
/-- strokes, drawn from the code -/
def CSt (w : World) (e : Ending) (w' : World) : Prop := ∃ (l : List Stroke) (A' : Option Addr) (c' : Nat), e = .returned (.slice A' l.length c') ∧ l.length ≤ 1000 ∧ Own w' w.heap.size 91 3 (.slice A' l.length c') (l.map Stroke.cells) ∧ Below w.heap.size w w'
def CTk (w : World) (e : Ending) (w' : World) : Prop := ∃ (l : List Tick) (A' : Option Addr) (c' : Nat), e = .returned (.slice A' l.length c') ∧ l.length ≤ 1000 ∧ Own w' w.heap.size 73 3 (.slice A' l.length c') (l.map Tick.cells) ∧ Below w.heap.size w w'
set_option maxRecDepth 100000 in
theorem drawTimeOf_c (A : Option Addr) (n c : Nat) (w : World) (hn : n ≤ 4096) (hb : Bytes w A n w.heap.size) : Calls Try.prog 41 #[.slice A n c] w (CSt w) := by
  have HB := Lib.hid hb; clear hb
  unfold CSt
  go_enter Try.func41, Try.ntmps41
  go_wp2_with (first
    | (go_at_call 83; refine (l01From_c A n c w hn HB.out).mono ?_; rintro e w1 ⟨rfl, hS1, hb1⟩)
    | (go_at_call 84; refine (l32Draw_c A n c _ w1 hS1).mono ?_; rintro e w2 ⟨l, A', c', rfl, hl, hO, hS2, hG⟩))
  go_ret
  exact ⟨l, A', c', rfl, hl, hO.mono hb1.size, below_src hb1 hG hb1.size (Nat.le_refl _)⟩
set_option maxRecDepth 100000 in
theorem drawWearOf_c (A : Option Addr) (n c : Nat) (w : World) (hn : n ≤ 4096) (hb : Bytes w A n w.heap.size) : Calls Try.prog 45 #[.slice A n c] w (CSt w) := by
  have HB := Lib.hid hb; clear hb
  unfold CSt
  go_enter Try.func45, Try.ntmps45
  go_wp2_with (first
    | (go_at_call 83; refine (l01From_c A n c w hn HB.out).mono ?_; rintro e w1 ⟨rfl, hS1, hb1⟩)
    | (go_at_call 84; refine (l32Draw_c A n c _ w1 hS1).mono ?_; rintro e w2 ⟨l, A', c', rfl, hl, hO, hS2, hG⟩))
  go_ret
  exact ⟨l, A', c', rfl, hl, hO.mono hb1.size, below_src hb1 hG hb1.size (Nat.le_refl _)⟩
set_option maxRecDepth 100000 in
theorem drawStrokesOf_c (A : Option Addr) (n c : Nat) (w : World) (hn : n ≤ 4096) (hb : Bytes w A n w.heap.size) : Calls Try.prog 33 #[.slice A n c] w (CTk w) := by
  have HB := Lib.hid hb; clear hb
  unfold CTk
  go_enter Try.func33, Try.ntmps33
  go_wp2_with (first
    | (go_at_call 83; refine (l01From_c A n c w hn HB.out).mono ?_; rintro e w1 ⟨rfl, hS1, hb1⟩)
    | (go_at_call 82; refine (l32DrawTicks_c A n c _ w1 hS1).mono ?_; rintro e w2 ⟨l, A', c', rfl, hl, hO, hS2, hG⟩))
  go_ret
  exact ⟨l, A', c', rfl, hl, hO.mono hb1.size, below_src hb1 hG hb1.size (Nat.le_refl _)⟩
set_option maxRecDepth 100000 in
theorem drawRestOf_c (A : Option Addr) (n c : Nat) (w : World) (hn : n ≤ 4096) (hb : Bytes w A n w.heap.size) : Calls Try.prog 36 #[.slice A n c] w fun e w' => ∃ (l : List Stroke) (A' : Option Addr) (c' : Nat) (d : Int), e = .returned (.tuple #[.slice A' l.length c', .int .i64 d]) ∧ l.length ≤ 1000 ∧ (-100000000 ≤ d ∧ d ≤ 100000000) ∧ Own w' w.heap.size 91 3 (.slice A' l.length c') (l.map Stroke.cells) ∧ Below w.heap.size w w' := by
  have HB := Lib.hid hb; clear hb
  go_enter Try.func36, Try.ntmps36
  go_wp2_with (first
    | (go_at_call 83; refine (l01From_c A n c w hn HB.out).mono ?_; rintro e w1 ⟨rfl, hS1, hb1⟩)
    | (go_at_call 84; refine (l32Draw_c A n c _ w1 hS1).mono ?_; rintro e w2 ⟨l, A', c', rfl, hl, hO, hS2, hG⟩))
  refine (l01Next_c A n c _ _ _ hS2).mono ?_; rintro e w3 ⟨r1, rfl, ⟨r1a, r1b⟩, r1d, hS3, hg3⟩
  have hO := hO.src hg3 (by have := hS1.lt; omega)
  have hG := hG.trans hg3
  clear hg3
  go_wp2_with fail
  refine (l01Next_c A n c _ _ _ hS3).mono ?_; rintro e w4 ⟨r2, rfl, ⟨r2a, r2b⟩, r2d, hS4, hg4⟩
  have hO := hO.src hg4 (by have := hS1.lt; omega)
  have hG := hG.trans hg4
  clear hg4
  go_wp2_with fail
  refine (l01Next_c A n c _ _ _ hS4).mono ?_; rintro e w5 ⟨r3, rfl, ⟨r3a, r3b⟩, r3d, hS5, hg5⟩
  have hO := hO.src hg5 (by have := hS1.lt; omega)
  have hG := hG.trans hg5
  clear hg5
  go_wp2_with fail
  go_ret2
  exact ⟨l, A', c', _, rfl, hl, by first | omega | (constructor <;> omega), hO.mono hb1.size, below_src hb1 hG hb1.size (Nat.le_refl _)⟩
set_option maxRecDepth 100000 in
set_option maxHeartbeats 1000000 in
theorem drawIsEngraved_c (A : Option Addr) (n c : Nat) (w : World) (hn : n ≤ 4096) (hb : Bytes w A n w.heap.size) : Calls Try.prog 44 #[.slice A n c] w fun e w' => ∃ (t : List Tick) (At : Option Addr) (ct : Nat) (l : List Stroke) (A' : Option Addr) (c' : Nat), e = .returned (.tuple #[.slice At t.length ct, .slice A' l.length c']) ∧ t.length ≤ 1000 ∧ l.length ≤ 1000 ∧ Own w' w.heap.size 73 3 (.slice At t.length ct) (t.map Tick.cells) ∧ Own w' w.heap.size 91 3 (.slice A' l.length c') (l.map Stroke.cells) ∧ Below w.heap.size w w' := by
  have HB := Lib.hid hb; clear hb
  have hsz := Nat.le_refl w.heap.size
  go_enter Try.func44, Try.ntmps44
  go_wp2_with (first
    | (go_at_call 83; refine (l01From_c A n c w hn HB.out).mono ?_; rintro e w1 ⟨rfl, hS1, hb1⟩)
    | (go_at_call 82; refine (l32DrawTicks_c A n c _ w1 hS1).mono ?_; rintro e w2 ⟨t, At, ct, rfl, ht, hT, hS2, hG⟩))
  have g1 := hS1.lt
  clear HB
  have hZ2 := below_src hb1 hG hb1.size (Nat.le_refl _)
  have g2 := hS2.lt
  have z1 := hb1.size
  clear hG hb1 hS1
  have hln := strokesRes_len t
  have H1 := Lib.hid (specStrokesOf_c At ct t w2 (by omega) hT.sl)
  by_cases h0 : engCode t = 0
  · have HR : Hid (∀ x ∈ strokesRes t, x.tool = 1 ∨ x.tool = 2) := by unfold Hid strokesRes; rw [if_pos h0]; exact tick_tool t
    rw [h0] at H1
    clear h0
    generalize strokesRes t = S at *
    refine H1.out.mono ?_; rintro e w3 ⟨A3, c3, rfl, hO, hb3⟩
    have hZ3 := hZ2.trans (hb3.mono hZ2.size)
    have hT := hT.below hb3
    have hS3 := hS2.below hb3
    have g3 := hS3.lt
    clear H1 hS2 hb3
    go_wp2_with fail
    refine (l01Next_c A n c _ _ _ hS3).mono ?_; rintro e w4 ⟨r, rfl, ⟨ra, rb⟩, rd, hS4, hg4⟩
    have hO := hO.src hg4 g2
    have hT := hT.src hg4 g1
    have hZ4 := below_src hZ3 hg4 hZ3.size (Nat.le_refl _)
    have g4 := hS4.lt
    clear hg4 hS3 hZ3
    by_cases hr0 : r = 0
    · subst hr0
      go_wp2_with fail
      refine (l32Draw_c A n c _ _ hS4).mono ?_; rintro e w5 ⟨l, A', c', rfl, hl, hO5, hS5, hG5⟩
      have hT := hT.src hG5 g1
      have hZ5 := below_src hZ4 hG5 hZ4.size (Nat.le_refl _)
      go_wp2
      go_ret2
      exact ⟨t, At, ct, l, A', c', rfl, ht, hl, hT.mono z1, hO5.mono hZ4.size, hZ5⟩
    · have hrf : (r == 0) = false := by simp [hr0]
      have hsl := sortSt_len S
      have HS := fun W h => Lib.hid (l32Sorted_c A3 c3 S W (by omega) HR.out h)
      go_wp2_with fail
      have hTlt : Hid (∀ r, (Value.slice At t.length ct).ownBlock = some r → r < w4.heap.size) := fun r hr => (hT.1.lt r hr).2
      refine (HS _ hO.sl).out.mono ?_; rintro e w5 ⟨A5, c5, rfl, hO5, hb5⟩
      have hL1 : (sortSt S).length ≤ 1000 := by omega
      clear HS hsl
      generalize sortSt S = L at *
      have hT := hT.below hb5
      have hS5 := hS4.below hb5
      have hZ5 := hZ4.trans (hb5.mono hZ4.size)
      clear hb5 hS4 hO
      by_cases hpos : 0 < L.length
      · have hposI : (0 : Int) < (L.length : Int) := by omega
        obtain ⟨gL, cL, hv⟩ := hO5.some_ (by simpa using hpos)
        simp only [Value.slice.injEq] at hv
        obtain ⟨rfl, -, rfl⟩ := hv
        go_wp2_with fail
        refine (l01Next_c A n c _ _ _ hS5).mono ?_; rintro e w6 ⟨q, rfl, ⟨qa, qb⟩, qd, hS6, hg6⟩
        have hO5 := hO5.src hg6 g4
        have hT := hT.src hg6 g1
        have hZ6 := below_src hZ5 hg6 hZ5.size (Nat.le_refl _)
        by_cases hq0 : q = 0
        · subst hq0
          go_wp2_with fail
          refine (l01Next_c A n c _ _ _ hS6).mono ?_; rintro e w7 ⟨m, rfl, ⟨ma, mb⟩, md, hS7, hg7⟩
          have hO5 := hO5.src hg7 g4
          have hT := hT.src hg7 g1
          have hZ7 := below_src hZ6 hg7 hZ6.size (Nat.le_refl _)
          have hP := set_place L hpos hO5 m
          obtain ⟨v1, y1⟩ := hO5.cell (i := 0) (j := 1) (by simpa using hpos) (by omega)
          have y1 : w7.cell? ⟨gL, 1, none⟩ = some v1 := y1
          have yf : w7.frozen? ⟨gL, 1, none⟩ = false := hO5.frozen 1
          have hgl := hO5.block_ge.1
          have h1 : (0 : Int) < (L.length : Int) := hposI
          go_wp2
          go_ret2
          have hG8 : Hid (w7.grownBy (w7.setCell ⟨gL, 1, none⟩ (.int .i64 m)) (some gL)) := grownBy_stores [.int .i64 m] 1 (World.grownBy.refl _ _)
          have hT8 := hT.kept hG8.out (Classical.or_iff_not_imp_left.2 fun _ h => by have := hTlt.out gL h; omega)
          exact ⟨t, At, ct, L.set 0 ⟨L[0].tool, m, L[0].long⟩, some ⟨gL, 0, none⟩, c5, by rw [List.length_set]; rfl, ht, by rw [List.length_set]; omega, hT8.mono z1, by rw [List.length_set]; exact hP.mono hZ4.size, hZ7.setCell (p := ⟨gL, 1, none⟩) (by have := hZ4.size; show w.heap.size ≤ gL; omega) _⟩
        · have hqf : (q == 0) = false := by simp [hq0]
          go_wp2
          go_ret2
          exact ⟨t, At, ct, L, _, _, rfl, ht, by omega, hT.mono z1, hO5.mono hZ4.size, hZ6⟩
      · have hposI : ¬ (0 : Int) < (L.length : Int) := by omega
        go_wp2
        go_ret2
        exact ⟨t, At, ct, L, _, _, rfl, ht, by omega, hT.mono z1, hO5.mono hZ4.size, hZ5⟩
  · have hne : (engCode t != 0) = true := by simp [h0]
    clear h0
    generalize strokesRes t = S at *
    refine H1.out.mono ?_; rintro e w3 ⟨A3, c3, rfl, hO, hb3⟩
    have hZ3 := hZ2.trans (hb3.mono hZ2.size)
    have hT := hT.below hb3
    have hS3 := hS2.below hb3
    clear H1 hS2 hb3 hO
    go_wp2_with fail
    refine (l32Draw_c A n c _ _ hS3).mono ?_; rintro e w4 ⟨l, A', c', rfl, hl, hO4, hS4, hG4⟩
    have hT := hT.src hG4 g1
    have hZ4 := below_src hZ3 hG4 hZ3.size (Nat.le_refl _)
    go_wp2
    go_ret2
    exact ⟨t, At, ct, l, A', c', rfl, ht, hl, hT.mono z1, hO4.mono hZ3.size, hZ4⟩
end Go.Proofs.Ytdlipjgdkjdgnaa
