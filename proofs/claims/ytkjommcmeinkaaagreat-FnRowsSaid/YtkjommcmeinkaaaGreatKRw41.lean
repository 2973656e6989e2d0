/- MissingMarks: the program's and the reference's. No condition beyond the lists' lengths. -/
import Derived.Test.YtkjommcmeinkaaaGreatKRw39
set_option linter.unusedSimpArgs false
namespace Go.Proofs.YtkjommcmeinkaaaGreat
open Go.RowKit
theorem grad_ok {g : List Part} (h : gradOK g = true) : g.length ≤ 12 ∧ gradAt g = some 10000 := by
  unfold gradOK at h
  simp only [Bool.and_eq_true, decide_eq_true_eq, beq_iff_eq] at h
  exact ⟨h.1.2, h.2⟩
theorem miss1 {g : List Part} {l : List Tick} {a b : Int} (h : gradOK g = false) : missCode g l a b = 1 ∧ missR g l a b = [] := by
  have e : missCode g l a b = 1 := by unfold missCode; rw [if_pos h]
  exact ⟨e, by unfold missR; rw [if_neg (by rw [e]; decide)]⟩
theorem miss2 {g : List Part} {l : List Tick} {a b : Int} (h : gradOK g = true) (hr : rowCode l ≠ 0) : missCode g l a b = rowCode l ∧ missR g l a b = [] := by
  have e : missCode g l a b = rowCode l := by unfold missCode; rw [if_neg (by rw [h]; decide), if_pos hr]
  exact ⟨e, by unfold missR; rw [if_neg (by rw [e]; exact hr)]⟩
theorem miss3 {g : List Part} {l : List Tick} {a b : Int} (h : gradOK g = true) (hr : rowCode l = 0) (hb : inB a 1000 9999 = false ∨ inB b 1000 9999 = false) : missCode g l a b = 2 ∧ missR g l a b = [] := by
  have e : missCode g l a b = 2 := by unfold missCode; rw [if_neg (by rw [h]; decide), if_neg (by rw [hr]; decide), if_pos hb]
  exact ⟨e, by unfold missR; rw [if_neg (by rw [e]; decide)]⟩
theorem miss4 {g : List Part} {l : List Tick} {a b : Int} (h : gradOK g = true) (hr : rowCode l = 0) (ha : inB a 1000 9999 = true) (hb : inB b 1000 9999 = true) : missCode g l a b = (if 100 < (missL g l a b).length then 3 else 0) := by
  unfold missCode; rw [if_neg (by rw [h]; decide), if_neg (by rw [hr]; decide), if_neg (by rw [ha, hb]; decide)]
theorem missR_len (g : List Part) (l : List Tick) (a b : Int) : (missR g l a b).length ≤ 100 := by
  unfold missR
  split
  · rename_i h
    unfold missCode at h
    split at h
    · cases h
    · split at h
      · rename_i h2; exact absurd h h2
      · split at h
        · cases h
        · split at h
          · cases h
          · omega
  · simp
set_option maxRecDepth 100000 in
set_option maxHeartbeats 1000000 in
theorem implMissing_c (gA : Option Addr) (gc : Nat) (g : List Part) (A : Option Addr) (c : Nat) (l : List Tick) (a b : Int) (w : World) (hgl : g.length ≤ 140737488351232) (hgs : Sl w w.heap.size 3 gA (g.map Part.cells)) (hl : l.length ≤ 140737488351232) (hs : Sl w w.heap.size 3 A (l.map Tick.cells)) :
    Calls Tryz.prog 12 #[.slice gA g.length gc, .slice A l.length c, .int .i64 a, .int .i64 b] w (PostRows 2 1 (missR g l a b).length ((missR g l a b).map ic) (missCode g l a b) w) := by
  have hG := Lib.hid (implIsGraduation_c gA gc g (w.alloc (.cells #[.slice A l.length c] 30)) hgl ((hgs.alloc (Nat.le_refl _) _).more (by simp)))
  have hR := Lib.hid (fun W h => checkRow_c A c l W hl h)
  have hB0 : Below w.heap.size w (w.alloc (.cells #[.slice A l.length c] 30)) := (Below.refl _ _).alloc (Nat.le_refl _) _
  have hbx : (w.alloc (.cells #[.slice A l.length c] 30)).cell? ⟨w.heap.size, 0, none⟩ = some (.slice A l.length c) := by simp
  cases hg : gradOK g
  · obtain ⟨e1, e2⟩ := miss1 (l := l) (a := a) (b := b) hg
    rw [e1, e2]
    rw [hg] at hG
    clear hg e1 e2 hR hbx
    go_enter Tryz.func12, Tryz.ntmps12
    go_wp2_with (go_at_call 33; refine hG.out.mono ?_; rintro e w1 ⟨rfl, hb1⟩)
    go_ret2
    exact ⟨none, 0, rfl, Own.nil_, hB0.trans (hb1.mono (by simp))⟩
  · rw [hg] at hG
    obtain ⟨hg12, hgv⟩ := grad_ok hg
    by_cases hr : rowCode l = 0
    · rw [hr] at hR
      have hD := fun n W => isDigits_c n W
      cases ha : inB a 1000 9999
      · obtain ⟨e1, e2⟩ := miss3 (g := g) (l := l) (a := a) (b := b) hg hr (.inl ha)
        rw [e1, e2]
        have hD := Lib.hid (fun W => (ha ▸ isDigits_c a W : Calls Tryz.prog 34 #[.int .i64 a] W fun e w' => e = .returned (.bool false) ∧ W = w'))
        clear hg hr ha e1 e2 hgv
        go_enter Tryz.func12, Tryz.ntmps12
        go_wp2_with (first
          | (go_at_call 33; refine hG.out.mono ?_; rintro e w1 ⟨rfl, hb1⟩; have hb1' := hB0.trans (hb1.mono (by simp)); have hx1 : w1.cell? ⟨w.heap.size, 0, none⟩ = some (.slice A l.length c) := by rw [hb1.cell (by simp)]; exact hbx)
          | (go_at_call 28; refine (hR.out _ ((hs.below hb1').more hb1'.size)).mono ?_; rintro e w2 ⟨rfl, hb2⟩)
          | (go_at_call 34; refine (hD.out _).mono ?_; rintro e w' ⟨rfl, rfl⟩))
        go_ret2
        exact ⟨none, 0, rfl, Own.nil_, hb1'.trans (hb2.mono hb1'.size)⟩
      · cases hb : inB b 1000 9999
        · obtain ⟨e1, e2⟩ := miss3 (g := g) (l := l) (a := a) (b := b) hg hr (.inr hb)
          rw [e1, e2]
          have hD := Lib.hid (fun W => (ha ▸ isDigits_c a W : Calls Tryz.prog 34 #[.int .i64 a] W fun e w' => e = .returned (.bool true) ∧ W = w'))
          have hE := Lib.hid (fun W => (hb ▸ isDigits_c b W : Calls Tryz.prog 34 #[.int .i64 b] W fun e w' => e = .returned (.bool false) ∧ W = w'))
          clear hg hr ha hb e1 e2 hgv
          go_enter Tryz.func12, Tryz.ntmps12
          go_wp2_with (first
            | (go_at_call 33; refine hG.out.mono ?_; rintro e w1 ⟨rfl, hb1⟩; have hb1' := hB0.trans (hb1.mono (by simp)); have hx1 : w1.cell? ⟨w.heap.size, 0, none⟩ = some (.slice A l.length c) := by rw [hb1.cell (by simp)]; exact hbx)
            | (go_at_call 28; refine (hR.out _ ((hs.below hb1').more hb1'.size)).mono ?_; rintro e w2 ⟨rfl, hb2⟩; have tok : True := trivial)
            | (go_at_call 34; have _t := tok; with_reducible refine (hD.out _).mono ?_; rintro e w' ⟨rfl, rfl⟩; clear tok)
            | (go_at_call 34; with_reducible refine (hE.out _).mono ?_; rintro e w' ⟨rfl, rfl⟩))
          go_ret2
          exact ⟨none, 0, rfl, Own.nil_, hb1'.trans (hb2.mono hb1'.size)⟩
        · have e1 := miss4 (g := g) (l := l) (a := a) (b := b) hg hr ha hb
          have hD := Lib.hid (fun W => (ha ▸ isDigits_c a W : Calls Tryz.prog 34 #[.int .i64 a] W fun e w' => e = .returned (.bool true) ∧ W = w'))
          have hE := Lib.hid (fun W => (hb ▸ isDigits_c b W : Calls Tryz.prog 34 #[.int .i64 b] W fun e w' => e = .returned (.bool true) ∧ W = w'))
          have eg : ∀ args w, (callFunc 37 args).run Tryz.prog w = .ok (.enter 37 args) w := enters_of Tryz.func37 (by kernel_rfl) rfl
          have eg := Lib.hid eg
          have hM := Lib.hid (fun W h => marksIn_c gA gc g a b W hg12 hgv h)
          have HL : Hid (((marksL g).filter (fun n => inR a b n)).filter (fun n => !decide (0 < cntMark l n)) = missL g l a b) := rfl
          have HR : Hid (missR g l a b = if missCode g l a b = 0 then missL g l a b else []) := rfl
          have E1 := Lib.hid e1
          clear hg hr ha hb e1 hgv
          by_cases hbig : 100 < (missL g l a b).length
          all_goals
            go_enter Tryz.func12, Tryz.ntmps12
            go_wp2_with (first
              | (go_at_call 33; refine hG.out.mono ?_; rintro e w1 ⟨rfl, hb1⟩; have hb1' := hB0.trans (hb1.mono (by simp)); have hx1 : w1.cell? ⟨w.heap.size, 0, none⟩ = some (.slice A l.length c) := by rw [hb1.cell (by simp)]; exact hbx)
              | (go_at_call 28; refine (hR.out _ ((hs.below hb1').more hb1'.size)).mono ?_; rintro e w2 ⟨rfl, hb2⟩; have hb2' := hb1'.trans (hb2.mono hb1'.size); have z12 := hb2.size; have hx2 : w2.cell? ⟨w.heap.size, 0, none⟩ = some (.slice A l.length c) := by rw [hb2.cell (show w.heap.size < w1.heap.size by have := hb1.size; simp at this; omega)]; exact hx1)
              | (go_at_call 34; with_reducible refine (hD.out _).mono ?_; rintro e w' ⟨rfl, rfl⟩)
              | (go_at_call 34; with_reducible refine (hE.out _).mono ?_; rintro e w' ⟨rfl, rfl⟩)
              | (go_at_call 36; refine (hM.out w2 ((hgs.below hb2').more hb2'.size)).mono ?_; rintro e w3 ⟨A3, c3, rfl, hl3, hO3, hb3⟩; have hb3' := hb2'.trans (hb3.mono hb2'.size); have z3 := hb3'.size; have z23 := hb3.size; have z1 : w.heap.size + 1 ≤ w2.heap.size := by have := hb1.size; simp at this; omega)
              | (go_at_call 35; have hpred : PredI (w.heap.size + 1) 37 #[.pointer (some ⟨w.heap.size, 0, none⟩)] (fun n => decide (0 < cntMark l n)) w3 := (fun x W hW => missClo_c A c w.heap.size l x W hl ((hs.below (hb3'.trans (hW.mono (by omega)))).more (by have := hW.size; omega)) (by rw [hW.cell (show w.heap.size < w.heap.size + 1 by omega), hb3.cell (show w.heap.size < w2.heap.size by omega)]; exact hx2)); refine (deleteFuncI_c (w.heap.size + 1) w2.heap.size A3 c3 _ 37 _ (fun n => decide (0 < cntMark l n)) w3 eg.out hpred (by omega) hb3.size (by omega) hO3).mono ?_; rintro e w4 ⟨A4, rfl, hO4, hb4⟩; rw [HL.out] at hO4 ⊢; clear hO3 hl3))
            go_ret2
          · rw [HR.out, E1.out, if_pos hbig]
            exact ⟨none, 0, rfl, Own.nil_, hb3'.trans (hb4.mono (by omega))⟩
          · rw [HR.out, E1.out, if_neg hbig]
            exact ⟨A4, c3, rfl, hO4.mono (by omega), hb3'.trans (hb4.mono (by omega))⟩
    · obtain ⟨e1, e2⟩ := miss2 (g := g) (l := l) (a := a) (b := b) hg hr
      rw [e1, e2]
      have hrn : (rowCode l != 0) = true := by simp [hr]
      clear hg hr e1 e2 hgv
      generalize rowCode l = q at *
      go_enter Tryz.func12, Tryz.ntmps12
      go_wp2_with (first
        | (go_at_call 33; refine hG.out.mono ?_; rintro e w1 ⟨rfl, hb1⟩; have hb1' := hB0.trans (hb1.mono (by simp)); have hx1 : w1.cell? ⟨w.heap.size, 0, none⟩ = some (.slice A l.length c) := by rw [hb1.cell (by simp)]; exact hbx)
        | (go_at_call 28; refine (hR.out _ ((hs.below hb1').more hb1'.size)).mono ?_; rintro e w2 ⟨rfl, hb2⟩))
      go_ret2
      exact ⟨none, 0, rfl, Own.nil_, hb1'.trans (hb2.mono hb1'.size)⟩
def missC (l : List Tick) (a b : Int) (n : Int) : Bool := !decide (0 < cntMark l n) && inR a b n
theorem missL_eq (g : List Part) (l : List Tick) (a b : Int) : missL g l a b = (marksL g).filter (missC l a b) := by
  unfold missL missC
  rw [List.filter_filter]
theorem filter_next {M : List Int} {f : Int → Bool} {k : Nat} (hk : k < M.length) : (M.take (k + 1)).filter f = (M.take k).filter f ++ (if f M[k] then [M[k]] else []) := by
  rw [List.take_succ_eq_append_getElem hk, List.filter_append]
  cases h : f M[k] <;> simp [h]
/-- the inner search -/
def SeenPost (l : List Tick) (n : Int) (k : Nat) (v : Value) : Prop := v = .bool (decide (0 < cntMark (l.take k) n))
set_option maxRecDepth 100000 in
set_option maxHeartbeats 2000000 in
theorem specMissing_c (gA : Option Addr) (gc : Nat) (g : List Part) (A : Option Addr) (c : Nat) (l : List Tick) (a b : Int) (w : World) (hgl : g.length ≤ 140737488351232) (hgs : Sl w w.heap.size 3 gA (g.map Part.cells)) (hl : l.length ≤ 140737488351232) (hs : Sl w w.heap.size 3 A (l.map Tick.cells)) :
    Calls Tryz.prog 13 #[.slice gA g.length gc, .slice A l.length c, .int .i64 a, .int .i64 b] w (PostRows 2 1 (missR g l a b).length ((missR g l a b).map ic) (missCode g l a b) w) := by
  have hG := Lib.hid (specIsGraduation_c gA gc g w hgl hgs)
  have hR := Lib.hid (fun W h => l29Row_c A c l W hl h)
  cases hg : gradOK g
  · obtain ⟨e1, e2⟩ := miss1 (l := l) (a := a) (b := b) hg
    rw [e1, e2]
    rw [hg] at hG
    clear hg e1 e2 hR
    go_enter Tryz.func13, Tryz.ntmps13
    go_wp2_with (go_at_call 39; refine hG.out.mono ?_; rintro e w1 ⟨rfl, hb1⟩)
    go_ret2
    exact ⟨none, 0, rfl, Own.nil_, hb1⟩
  · rw [hg] at hG
    obtain ⟨hg12, hgv⟩ := grad_ok hg
    by_cases hr : rowCode l = 0
    · rw [hr] at hR
      by_cases hab : inB a 1000 9999 = false ∨ inB b 1000 9999 = false
      · obtain ⟨e1, e2⟩ := miss3 (g := g) (l := l) (a := a) (b := b) hg hr hab
        rw [e1, e2]
        clear hg hr e1 e2 hgv
        cases ha : inB a 1000 9999
        · have hD := Lib.hid (fun W => (ha ▸ l01In_c a 1000 9999 W : Calls Tryz.prog 41 #[.int .i64 a, .int .i64 1000, .int .i64 9999] W fun e w' => e = .returned (.bool false) ∧ W = w'))
          clear ha hab
          go_enter Tryz.func13, Tryz.ntmps13
          go_wp2_with (first
            | (go_at_call 39; refine hG.out.mono ?_; rintro e w1 ⟨rfl, hb1⟩)
            | (go_at_call 40; refine (hR.out _ ((hs.below hb1).more hb1.size)).mono ?_; rintro e w2 ⟨rfl, hb2⟩)
            | (go_at_call 41; refine (hD.out _).mono ?_; rintro e w' ⟨rfl, rfl⟩))
          go_ret2
          exact ⟨none, 0, rfl, Own.nil_, hb1.trans (hb2.mono hb1.size)⟩
        · have hb : inB b 1000 9999 = false := by rcases hab with h | h; (rw [ha] at h; cases h); exact h
          have hD := Lib.hid (fun W => (ha ▸ l01In_c a 1000 9999 W : Calls Tryz.prog 41 #[.int .i64 a, .int .i64 1000, .int .i64 9999] W fun e w' => e = .returned (.bool true) ∧ W = w'))
          have hE := Lib.hid (fun W => (hb ▸ l01In_c b 1000 9999 W : Calls Tryz.prog 41 #[.int .i64 b, .int .i64 1000, .int .i64 9999] W fun e w' => e = .returned (.bool false) ∧ W = w'))
          clear ha hb hab
          go_enter Tryz.func13, Tryz.ntmps13
          go_wp2_with (first
            | (go_at_call 39; refine hG.out.mono ?_; rintro e w1 ⟨rfl, hb1⟩)
            | (go_at_call 40; refine (hR.out _ ((hs.below hb1).more hb1.size)).mono ?_; rintro e w2 ⟨rfl, hb2⟩; have tok : True := trivial)
            | (go_at_call 41; have _t := tok; with_reducible refine (hD.out _).mono ?_; rintro e w' ⟨rfl, rfl⟩; clear tok)
            | (go_at_call 41; with_reducible refine (hE.out _).mono ?_; rintro e w' ⟨rfl, rfl⟩))
          go_ret2
          exact ⟨none, 0, rfl, Own.nil_, hb1.trans (hb2.mono hb1.size)⟩
      · have ha : inB a 1000 9999 = true := by cases h : inB a 1000 9999; exact absurd (.inl h) hab; rfl
        have hb : inB b 1000 9999 = true := by cases h : inB b 1000 9999; exact absurd (.inr h) hab; rfl
        have e1 := miss4 (g := g) (l := l) (a := a) (b := b) hg hr ha hb
        have hD := Lib.hid (fun W => (ha ▸ l01In_c a 1000 9999 W : Calls Tryz.prog 41 #[.int .i64 a, .int .i64 1000, .int .i64 9999] W fun e w' => e = .returned (.bool true) ∧ W = w'))
        have hE := Lib.hid (fun W => (hb ▸ l01In_c b 1000 9999 W : Calls Tryz.prog 41 #[.int .i64 b, .int .i64 1000, .int .i64 9999] W fun e w' => e = .returned (.bool true) ∧ W = w'))
        have hM := Lib.hid (fun W h => l07Marks_c gA gc g W hg12 hgv h)
        have HL : Hid (missL g l a b = (marksL g).filter (missC l a b)) := missL_eq g l a b
        have HR : Hid (missR g l a b = if missCode g l a b = 0 then missL g l a b else []) := rfl
        have E1 := Lib.hid e1
        obtain ⟨hl40, _⟩ := rowCode_ok hr
        clear hg hr ha hb e1 hgv hab
        obtain ⟨i0, hi, hz0, hz1, hz2⟩ := info_parts info_Int64
        go_enter Tryz.func13, Tryz.ntmps13
        go_wp2_with (first
          | (go_at_call 39; refine hG.out.mono ?_; rintro e w1 ⟨rfl, hb1⟩)
          | (go_at_call 40; refine (hR.out _ ((hs.below hb1).more hb1.size)).mono ?_; rintro e w2 ⟨rfl, hb2⟩; have hb2' := hb1.trans (hb2.mono hb1.size))
          | (go_at_call 41; with_reducible refine (hD.out _).mono ?_; rintro e w' ⟨rfl, rfl⟩)
          | (go_at_call 41; with_reducible refine (hE.out _).mono ?_; rintro e w' ⟨rfl, rfl⟩)
          | (go_at_call 42; refine (hM.out _ ((hgs.below hb2').more hb2'.size)).mono ?_; rintro e w3 ⟨A3, c3, rfl, hl3, hO3, hb3⟩; have hb3' := hb2'.trans (hb3.mono hb2'.size)))
        have hs3 := (hs.below hb3').more hb3'.size
        have hb3s := hb3'.size
        clear hs hgs hb1 hb2 hb2' hb3
        generalize hMM : marksL g = M at *
        have HMM := Lib.hid hMM
        clear hMM
        go_loopw [12, 13] (fun v i wr => ∃ k : Nat, k ≤ M.length ∧ i = .int .i64 k ∧ Below w3.heap.size w3 wr ∧ Own wr w3.heap.size 2 1 v (((M.take k).filter (missC l a b)).map ic)) (fun _ i _ => M.length - (intOf i).toNat)
        case atStart => exact ⟨0, Nat.zero_le _, rfl, (Below.refl _ _).alloc (Nat.le_refl _) _, by simpa using Own.empty (e := 2) (k := 1) (w := w3) (Nat.le_refl _)⟩
        case round =>
          obtain ⟨k, hk, rfl, hb, hO⟩ := hrel
          by_cases hlt : k < M.length
          · obtain ⟨mb, moff, rfl, hmB, hmc⟩ := hO3.sl.int hlt
            have mcell : ∀ W : World, Below w3.heap.size w3 W → W.cell? ⟨mb, moff + k, none⟩ = some (.int .i64 M[k]) := fun W hW => by rw [hW.cell hmB]; exact hmc
            clear hmc
            have hfl : ((M.take k).filter (missC l a b)).length ≤ M.length := Nat.le_trans (List.length_filter_le _ _) (List.length_take_le' _ _)
            have hfn := Lib.hid (filter_next (f := missC l a b) hlt)
            have hcq : ∀ n, missC l a b n = (!decide (0 < cntMark l n) && inR a b n) := fun _ => rfl
            have Hcq := Lib.hid (hcq M[k])
            clear hcq
            have Mc := Lib.hid mcell
            clear mcell
            generalize hn : M[k] = n at *
            have Hn := Lib.hid hn
            clear hn
            go_wp2_with fail
            go_loopw [14, 15] (fun v i wr => ∃ q : Nat, q ≤ l.length ∧ i = .int .i64 q ∧ SeenPost l n q v ∧ Below w3.heap.size w3 wr ∧ Own wr w3.heap.size 2 1 (u12) (((M.take k).filter (missC l a b)).map ic)) (fun _ i _ => l.length - (intOf i).toNat)
            case atStart => exact ⟨0, Nat.zero_le _, rfl, by simp [SeenPost, cntMark], hb, hO⟩
            case round =>
              clear hb hO
              obtain ⟨q, hq, rfl, hv, hb, hO⟩ := hrel
              unfold SeenPost at hv
              subst hv
              have hbs := hb.size
              by_cases hql : q < l.length
              · obtain ⟨rb, roff, rfl, hrB, rcc⟩ := hs3.at_ (i := q) (by simpa using hql)
                simp only [List.getElem_map] at rcc
                have r0 : wr.cell? ⟨rb, roff + q * 3, none⟩ = some (.int .i64 l[q].mark) := by rw [hb.cell hrB]; exact rcc 0 _ rfl
                have m0 := Mc.out wr hb
                clear rcc
                have hcn := Lib.hid (cnt_next l n hql)
                cases hd : decide (0 < cntMark (l.take q) n)
                · have hz : cntMark (l.take q) n = 0 := by have := of_decide_eq_false hd; omega
                  have Hz := Lib.hid hz
                  clear hz hd
                  by_cases he : l[q].mark = n
                  · have he' : (l[q].mark == n) = true := by simp [he]
                    have He := Lib.hid he
                    clear he
                    go_wp2_with fail
                    go_quiet (fail)
                    go_wp2
                    go_roundw
                    case rel => exact ⟨q + 1, by omega, by go_num, by unfold SeenPost; rw [hcn.out, if_pos He.out, Hz.out]; rfl, (by repeat (first | with_reducible exact hb | with_reducible apply below_drewN' | with_reducible apply Below.drew | (with_reducible refine Below.alloc ?_ (by first | omega | (simp; omega) | simp | (have := (hb).size; omega) | (have := (hb).size; simp; omega)) _) | (with_reducible refine Below.setCell ?_ (by first | omega | (simp; omega) | simp | (have := (hb).size; omega) | (have := (hb).size; simp; omega)) _) | exact hb)), by first | exact hO.drewN _ | exact hO⟩
                    case measure => simp [intOf]; omega
                  · have he' : (l[q].mark == n) = false := by simp [he]
                    have He := Lib.hid he
                    clear he
                    go_wp2_with fail
                    go_quiet (fail)
                    go_wp2
                    go_roundw
                    case rel => exact ⟨q + 1, by omega, by go_num, by unfold SeenPost; rw [hcn.out, if_neg He.out, Hz.out]; rfl, (by repeat (first | with_reducible exact hb | with_reducible apply below_drewN' | with_reducible apply Below.drew | (with_reducible refine Below.alloc ?_ (by first | omega | (simp; omega) | simp | (have := (hb).size; omega) | (have := (hb).size; simp; omega)) _) | (with_reducible refine Below.setCell ?_ (by first | omega | (simp; omega) | simp | (have := (hb).size; omega) | (have := (hb).size; simp; omega)) _) | exact hb)), by first | exact hO.drewN _ | exact hO⟩
                    case measure => simp [intOf]; omega
                · have hz : 0 < cntMark (l.take q) n := of_decide_eq_true hd
                  have Hz := Lib.hid hz
                  clear hz hd
                  go_wp2_with fail
                  go_quiet (fail)
                  go_wp2
                  go_roundw
                  case rel => exact ⟨q + 1, by omega, by go_num, by unfold SeenPost; rw [hcn.out, decide_eq_true (by have := Hz.out; omega)], (by repeat (first | with_reducible exact hb | with_reducible apply below_drewN' | with_reducible apply Below.drew | (with_reducible refine Below.alloc ?_ (by first | omega | (simp; omega) | simp | (have := (hb).size; omega) | (have := (hb).size; simp; omega)) _) | (with_reducible refine Below.setCell ?_ (by first | omega | (simp; omega) | simp | (have := (hb).size; omega) | (have := (hb).size; simp; omega)) _) | exact hb)), by first | exact hO.drewN _ | exact hO⟩
                  case measure => simp [intOf]; omega
              · have : q = l.length := by omega
                subst this
                rw [List.take_length]
                have m0 := Mc.out wr hb
                have hI := Lib.hid (fun W => l01In_c n a b W)
                have hnb : inB n a b = inR a b n := rfl
                rw [hnb] at hI
                clear hnb
                have Hf : missC l a b n = (!decide (0 < cntMark l n) && inR a b n) := rfl
                cases hd : decide (0 < cntMark l n)
                · cases hin : inR a b n
                  · rw [hin] at hI
                    have hc : missC l a b n = false := by rw [Hf, hd, hin]; rfl
                    have Hc := Lib.hid hc
                    clear hc Hf hd hin
                    go_wp2_with (go_at_call 41; refine (hI.out _).mono ?_; rintro e w' ⟨rfl, rfl⟩)
                    go_roundw
                    case rel => exact ⟨k + 1, by omega, by go_num, hb, by rw [hfn.out, Hc.out]; simpa using hO⟩
                    case measure => simp [intOf]; omega
                  · rw [hin] at hI
                    have hc : missC l a b n = true := by rw [Hf, hd, hin]; rfl
                    have Hc := Lib.hid hc
                    clear hc Hf hd hin
                    go_wp2_with (first | (go_at_call 41; refine (hI.out _).mono ?_; rintro e w' ⟨rfl, rfl⟩) | (at_builtin; refine wpList_append_rows _ rfl _ _ _ rfl w3.heap.size 2 i0 _ 1 8 Tryz.underlying37 hi hz0 hz1 hz2 rfl (by omega) _ _ rfl (hO.alloc _) _ _ _ _ [ic n] rfl rfl (Sl.of_blk (Blk.new' _ _ _ rfl) _ rfl (by simp [ic])) (ic_one (x := [n])) (by simp; unfold maxLen; omega) (by simp; omega) (by simp; omega) ?_; intro v1 w5 hO5 hg5 hat5))
                    go_roundw
                    case rel => exact ⟨k + 1, by omega, by go_num, below_app (hb.alloc hbs _) hg5 (by simp; omega) hO.ownGe, by rw [hfn.out, Hc.out, if_pos rfl, List.map_append]; exact hO5⟩
                    case measure => simp [intOf]; omega
                · have hc : missC l a b n = false := by rw [Hf, hd]; rfl
                  have Hc := Lib.hid hc
                  clear hc Hf hd hI
                  go_wp2_with fail
                  go_roundw
                  case rel => exact ⟨k + 1, by omega, by go_num, hb, by rw [hfn.out, Hc.out]; simpa using hO⟩
                  case measure => simp [intOf]; omega
          · have : k = M.length := by omega
            subst this
            rw [List.take_length] at hO
            have HL2 : Hid (missL g l a b = M.filter (missC l a b)) := HL
            rw [← HL2.out] at hO
            obtain ⟨A', c', rfl, _⟩ := hO.form
            rw [List.length_map] at *
            have hbF := hb3'.trans (hb.mono hb3s)
            by_cases hbig : 100 < (missL g l a b).length
            · go_wp2
              go_ret2
              rw [HR.out, E1.out, if_pos hbig]
              exact ⟨none, 0, rfl, Own.nil_, hbF⟩
            · go_wp2
              go_ret2
              rw [HR.out, E1.out, if_neg hbig]
              exact ⟨A', c', rfl, hO.mono hb3s, hbF⟩
    · obtain ⟨e1, e2⟩ := miss2 (g := g) (l := l) (a := a) (b := b) hg hr
      rw [e1, e2]
      have hrn : (rowCode l != 0) = true := by simp [hr]
      have hrn2 : (rowCode l == 0) = false := by simp [hr]
      clear hg hr e1 e2 hgv
      generalize rowCode l = q at *
      go_enter Tryz.func13, Tryz.ntmps13
      go_wp2_with (first
        | (go_at_call 39; refine hG.out.mono ?_; rintro e w1 ⟨rfl, hb1⟩)
        | (go_at_call 40; refine (hR.out _ ((hs.below hb1).more hb1.size)).mono ?_; rintro e w2 ⟨rfl, hb2⟩))
      go_ret2
      exact ⟨none, 0, rfl, Own.nil_, hb1.trans (hb2.mono hb1.size)⟩
end Go.Proofs.YtkjommcmeinkaaaGreat
