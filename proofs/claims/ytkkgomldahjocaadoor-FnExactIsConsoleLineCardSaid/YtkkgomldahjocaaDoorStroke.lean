/- Stroke: the structure, the laws' copies and comparisons of it. No condition beyond the length. -/
import Derived.Test.YtkkgomldahjocaaDoorNum
import Derived.StillTailTactics
namespace Go.Proofs.YtkkgomldahjocaaDoor
open Go.RowKit
@[ext] structure Stroke where
  tool : Int
  place : Int
  long : Int
deriving DecidableEq
def Stroke.cells (s : Stroke) : List Value := [.int .i64 s.tool, .int .i64 s.place, .int .i64 s.long]
def Stroke.agg (s : Stroke) : Value := .agg #[.int .i64 s.tool, .int .i64 s.place, .int .i64 s.long]

theorem Stroke.of_rows : ∀ rows : List (List Int), (∀ x ∈ rows, x.length = 3) → ∃ l : List Stroke, rows.map (·.map (Value.int .i64)) = l.map Stroke.cells
  | [], _ => ⟨[], rfl⟩
  | x :: r, h => by
    obtain ⟨l, hl⟩ := Stroke.of_rows r fun y hy => h y (by simp [hy])
    match x, h x (by simp) with
    | [a, b, c], _ => exact ⟨⟨a, b, c⟩ :: l, by rw [List.map_cons, hl]; rfl⟩

theorem toStroke_c (a b c : Int) (w : World) : Calls Tryd.prog 19 #[.agg #[.int .i64 a, .int .i64 b, .int .i64 c]] w fun e w' => e = .returned (.agg #[.int .i64 a, .int .i64 b, .int .i64 c]) ∧ Below w.heap.size w w' := by
  go_enter Tryd.func19, Tryd.ntmps19
  go_wp2
  refine bodyPost_ret (v := .agg #[.int .i64 a, .int .i64 b, .int .i64 c]) (by simp [results, Tryd.results19, go_sem]) rfl ⟨rfl, ?_⟩
  exact (((Below.refl _ _).alloc (by simp <;> omega) _).alloc (by simp <;> omega) _).alloc (by simp <;> omega) _

theorem szStrokeS_c (A : Option Addr) (n c : Nat) (left : Int) (w : World) (hn : n ≤ 140737488351232) (hl : 0 ≤ left ∧ left ≤ 1048576) :
   Calls Tryd.prog 6 #[.slice A n c, .int .i64 left] w fun e w' => e = .returned (.int .i64 (if left < n then -1 else left - n)) ∧ w = w' := by
  obtain ⟨h1, h2⟩ := hl
  by_cases h : left < n
  · have h' : left - n < 0 := by omega
    rw [if_pos h]
    go_enter Tryd.func6, Tryd.ntmps6
    go_wp2
    go_ret
    exact ⟨rfl, rfl⟩
  · have h' : ¬ left - n < 0 := by omega
    rw [if_neg h]
    go_enter Tryd.func6, Tryd.ntmps6
    go_wp2
    go_ret
    exact ⟨rfl, rfl⟩

theorem eqStroke_c (a b c : Int) (w : World) : Calls Tryd.prog 23 #[.agg #[.int .i64 a, .int .i64 b, .int .i64 c], .agg #[.int .i64 a, .int .i64 b, .int .i64 c]] w fun e w' => e = .returned (.bool true) ∧ Below w.heap.size w w' := by
  go_enter Tryd.func23, Tryd.ntmps23
  go_wp2
  go_ret
  exact ⟨rfl, ((Below.refl _ _).alloc (by simp <;> omega) _).alloc (by simp <;> omega) _⟩

set_option maxRecDepth 100000 in
theorem eqStrokeS_c (A A' : Option Addr) (c c' : Nat) (l : List Stroke) (w : World) (hl : l.length ≤ 140737488351232) (hs : Sl w w.heap.size 3 A (l.map Stroke.cells)) (hs' : Sl w w.heap.size 3 A' (l.map Stroke.cells)) :
   Calls Tryd.prog 10 #[.slice A l.length c, .slice A' l.length c'] w fun e w' => e = .returned (.bool true) ∧ Below w.heap.size w w' := by
  go_enter Tryd.func10, Tryd.ntmps10
  go_wp2_with fail
  go_loopw [5] (fun i wr => ∃ k : Nat, k ≤ l.length ∧ i = .int .i64 k ∧ Below w.heap.size w wr) (fun i _ => l.length - (intOf i).toNat)
  case atStart => exact ⟨0, Nat.zero_le _, rfl, Below.refl _ _⟩
  case round =>
    obtain ⟨k, hk, rfl, hb⟩ := hrel
    by_cases hlt : k < l.length
    · obtain ⟨b, off, rfl, hbB, hc⟩ := hs.at_ (i := k) (by simpa using hlt)
      obtain ⟨b', off', rfl, hbB', hc'⟩ := hs'.at_ (i := k) (by simpa using hlt)
      simp only [List.getElem_map] at hc hc'
      have c0 : wr.cell? ⟨b, off + k * 3, none⟩ = some (.int .i64 l[k].tool) := by rw [hb.cell hbB]; exact hc 0 _ rfl
      have c1 : wr.cell? ⟨b, off + k * 3 + 1, none⟩ = some (.int .i64 l[k].place) := by rw [hb.cell hbB]; exact hc 1 _ rfl
      have c2 : wr.cell? ⟨b, off + k * 3 + 2, none⟩ = some (.int .i64 l[k].long) := by rw [hb.cell hbB]; exact hc 2 _ rfl
      have d0 : wr.cell? ⟨b', off' + k * 3, none⟩ = some (.int .i64 l[k].tool) := by rw [hb.cell hbB']; exact hc' 0 _ rfl
      have d1 : wr.cell? ⟨b', off' + k * 3 + 1, none⟩ = some (.int .i64 l[k].place) := by rw [hb.cell hbB']; exact hc' 1 _ rfl
      have d2 : wr.cell? ⟨b', off' + k * 3 + 2, none⟩ = some (.int .i64 l[k].long) := by rw [hb.cell hbB']; exact hc' 2 _ rfl
      clear hc hc'
      go_wp2_with fail
      go_still_tail 8, (by kernel_rfl)
      change wpList _ _ _ _ _ wr.drew
      have hb : Below w.heap.size w wr.drew := hb.drew
      generalize wr.drew = w2 at hb ⊢
      clear c0 c1 c2 d0 d1 d2
      go_wp2_with (go_at_call 23; refine (eqStroke_c _ _ _ _).mono ?_; rintro e w1 ⟨rfl, hb1⟩)
      go_roundw
      case rel => exact ⟨k + 1, by omega, by go_num, hb.trans (hb1.mono hb.size)⟩
      case measure => simp [intOf]; omega
    · have : k = l.length := by omega
      subst this
      go_wp2
      go_ret
      exact ⟨rfl, hb⟩

theorem info_Stroke : (Tryd.prog.info? 37).map (fun i => (i.zero, i.size, i.bytes)) = some (some (.agg #[.int .i64 0, .int .i64 0, .int .i64 0]), 3, 24) := by kernel_rfl

set_option maxRecDepth 100000 in
theorem toStrokeS_c (A : Option Addr) (c : Nat) (l : List Stroke) (w : World) (hl : l.length ≤ 1048576) (hs : Sl w w.heap.size 3 A (l.map Stroke.cells)) :
    Calls Tryd.prog 8 #[.slice A l.length c] w fun e w' => ∃ A' c', e = .returned (.slice A' l.length c') ∧ Own w' w.heap.size 37 3 (.slice A' l.length c') (l.map Stroke.cells) ∧ Below w.heap.size w w' := by
  obtain ⟨i0, hi, hz0, hz1, hz2⟩ := info_parts info_Stroke
  go_enter Tryd.func8, Tryd.ntmps8
  go_wp2_with (refine wpList_make_full _ rfl (.tmp 6) (.tmp 6) 26 rfl w.heap.size 37 i0 _ 3 Tryd.underlying26 hi hz0 hz1 .i64 .i64 _ _ l.length rfl rfl rfl rfl (by rw [hz2]; omega) (by unfold maxLen; omega) (Nat.le_refl _) ?_; intro w1 hown hg)
  have hb1 : Below w.heap.size w w1 := (Below.refl _ _).grown hg (Nat.le_refl _) (fun k h => by cases h)
  have hO : Own w1 w.heap.size 37 3 (.slice (some ⟨w.heap.size, 0, none⟩) l.length l.length) ((l.map Stroke.cells).take 0 ++ List.replicate (l.length - 0) [Value.int .i64 0, .int .i64 0, .int .i64 0]) := by
    refine ⟨?_, by simp⟩
    rw [made_rows _ 3 _ rfl (by omega)] at hown
    simpa [Value.cells] using hown
  clear hown hg
  generalize hgs : w.heap.size = g at hO ⊢
  go_loopw [4] (fun i wr => ∃ k : Nat, k ≤ l.length ∧ i = .int .i64 k ∧ Below w.heap.size w wr ∧
      Own wr w.heap.size 37 3 (.slice (some ⟨g, 0, none⟩) l.length l.length) ((l.map Stroke.cells).take k ++ List.replicate (l.length - k) [Value.int .i64 0, .int .i64 0, .int .i64 0])) (fun i _ => l.length - (intOf i).toNat)
  case atStart => exact ⟨0, Nat.zero_le _, rfl, hb1, by rw [hgs]; exact hO⟩
  case round =>
    obtain ⟨k, hk, rfl, hb, hO⟩ := hrel
    by_cases hlt : k < l.length
    · obtain ⟨b, off, rfl, hbB, hc⟩ := hs.at_ (i := k) (by simpa using hlt)
      simp only [List.getElem_map] at hc
      have c0 : wr.cell? ⟨b, off + k * 3, none⟩ = some (.int .i64 l[k].tool) := by rw [hb.cell hbB]; exact hc 0 _ rfl
      have c1 : wr.cell? ⟨b, off + k * 3 + 1, none⟩ = some (.int .i64 l[k].place) := by rw [hb.cell hbB]; exact hc 1 _ rfl
      have c2 : wr.cell? ⟨b, off + k * 3 + 2, none⟩ = some (.int .i64 l[k].long) := by rw [hb.cell hbB]; exact hc 2 _ rfl
      clear hc
      go_wp2_with (go_at_call 19; refine (toStroke_c _ _ _ _).mono ?_; rintro e w2 ⟨rfl, hb2⟩; have hO2 := hO.below hb2; have hkl : k < ((l.map Stroke.cells).take k ++ List.replicate (l.length - k) [Value.int .i64 0, .int .i64 0, .int .i64 0]).length := (by simp; omega); obtain ⟨v0, e0⟩ : ∃ v, w2.cell? ⟨g, k * 3, none⟩ = some v := hO2.cell (i := k) (j := 0) hkl (by omega); obtain ⟨v1, e1⟩ : ∃ v, w2.cell? ⟨g, k * 3 + 1, none⟩ = some v := hO2.cell (i := k) (j := 1) hkl (by omega); obtain ⟨v2, e2⟩ : ∃ v, w2.cell? ⟨g, k * 3 + 2, none⟩ = some v := hO2.cell (i := k) (j := 2) hkl (by omega); have f0 : w2.frozen? ⟨g, k * 3, none⟩ = false := hO2.frozen _; have f1 : w2.frozen? ⟨g, k * 3 + 1, none⟩ = false := hO2.frozen _; have f2 : w2.frozen? ⟨g, k * 3 + 2, none⟩ = false := hO2.frozen _)
      go_roundw
      case rel =>
        refine ⟨k + 1, by omega, by go_num, ?_, ?_⟩
        · exact stores_below (by omega) l[k].cells (k * 3) (hb.trans (hb2.mono hb.size))
        · have h := hO2.store (i := k) hkl l[k].cells rfl
          rw [show ((l.map Stroke.cells).take k ++ List.replicate (l.length - k) [Value.int .i64 0, .int .i64 0, .int .i64 0]).set k l[k].cells = (l.map Stroke.cells).take (k + 1) ++ List.replicate (l.length - (k + 1)) [Value.int .i64 0, .int .i64 0, .int .i64 0] from rows_next (by simpa using hlt) (by simp [List.getElem?_eq_getElem hlt])] at h
          exact h
      case measure => simp [intOf]; omega
    · have : k = l.length := by omega
      subst this
      go_wp2
      go_ret
      rw [List.take_of_length_le (by simp), Nat.sub_self, List.replicate_zero, List.append_nil] at hO
      exact ⟨_, _, rfl, hO, hb⟩

def markStroke (m : Int) (i : Nat) : List Value := [.int .i64 (m + i * 3), .int .i64 (m + i * 3 + 1), .int .i64 (m + i * 3 + 1 + 1)]
set_option maxRecDepth 100000 in
theorem markStrokeS_c (A : Option Addr) (c base : Nat) (m : Int) (xs : List (List Value)) (w : World) (hm : 0 ≤ m ∧ m ≤ 1000000000) (hl : xs.length ≤ 10000000) (hO : Own w base 37 3 (.slice A xs.length c) xs) :
    Calls Tryd.prog 13 #[.slice A xs.length c, .int .i64 m] w fun e w' => e = .returned (.int .i64 (m + xs.length * 3)) ∧ Own w' base 37 3 (.slice A xs.length c) ((List.range xs.length).map (markStroke m)) ∧ w.grownBy w' (Value.slice A xs.length c).ownBlock := by
  go_enter Tryd.func13, Tryd.ntmps13
  go_wp2_with fail
  go_loopw [1, 5] (fun q i wr => ∃ k : Nat, k ≤ xs.length ∧ i = .int .i64 k ∧ q = .int .i64 (m + k * 3) ∧ w.grownBy wr (Value.slice A xs.length c).ownBlock ∧
      Own wr base 37 3 (.slice A xs.length c) ((List.range k).map (markStroke m) ++ xs.drop k)) (fun _ i _ => xs.length - (intOf i).toNat)
  case atStart => exact ⟨0, Nat.zero_le _, rfl, by simp, World.grownBy.refl _ _, by simpa using hO⟩
  case round =>
    obtain ⟨k, hk, rfl, rfl, hg, hO1⟩ := hrel
    by_cases hlt : k < xs.length
    · have hkl : k < ((List.range k).map (markStroke m) ++ xs.drop k).length := by simp; omega
      obtain ⟨_, b, off, rfl, _, _⟩ := hO1.sl k _ (List.getElem?_eq_getElem hkl)
      obtain rfl := hO1.off0 hkl
      obtain ⟨v0, e0⟩ : ∃ v, wr.cell? ⟨b, k * 3, none⟩ = some v := hO1.cell (i := k) (j := 0) hkl (by omega)
      obtain ⟨v1, e1⟩ : ∃ v, wr.cell? ⟨b, k * 3 + 1, none⟩ = some v := hO1.cell (i := k) (j := 1) hkl (by omega)
      obtain ⟨v2, e2⟩ : ∃ v, wr.cell? ⟨b, k * 3 + 2, none⟩ = some v := hO1.cell (i := k) (j := 2) hkl (by omega)
      have f0 : wr.frozen? ⟨b, k * 3, none⟩ = false := hO1.frozen _
      have f1 : wr.frozen? ⟨b, k * 3 + 1, none⟩ = false := hO1.frozen _
      have f2 : wr.frozen? ⟨b, k * 3 + 2, none⟩ = false := hO1.frozen _
      clear hO
      go_wp2
      go_roundw
      case rel =>
        refine ⟨k + 1, by omega, by go_num, ?_, ?_, ?_⟩
        · simp [Int.add_mul]; omega
        · exact grownBy_stores (markStroke m k) (k * 3) hg
        · have h := hO1.store (i := k) hkl (markStroke m k) rfl
          rw [marks_next _ hlt] at h
          exact h
      case measure => simp [intOf]; omega
    · have : k = xs.length := by omega
      subst this
      go_wp2
      go_ret
      rw [List.drop_of_length_le (Nat.le_refl _), List.append_nil] at hO1
      exact ⟨rfl, hO1, hg⟩

set_option maxRecDepth 100000 in
theorem heldStrokeS_c (A : Option Addr) (n c : Nat) (m : Int) (w : World) (hm : 0 ≤ m ∧ m ≤ 1000000000) (hl : n ≤ 10000000) (hs : Sl w w.heap.size 3 A ((List.range n).map (markStroke m))) :
    Calls Tryd.prog 14 #[.slice A n c, .int .i64 m] w fun e w' => e = .returned (.int .i64 (m + n * 3)) ∧ w = w' := by
  go_enter Tryd.func14, Tryd.ntmps14
  go_wp2_with fail
  go_loop [1, 5] (fun q i => ∃ k : Nat, k ≤ n ∧ i = .int .i64 k ∧ q = .int .i64 (m + k * 3)) (fun _ i => n - (intOf i).toNat)
  case atStart => exact ⟨0, Nat.zero_le _, rfl, by simp⟩
  case round =>
    obtain ⟨k, hk, rfl, rfl⟩ := hrel
    by_cases hlt : k < n
    · obtain ⟨b, off, rfl, hbB, hc⟩ := hs.at_ (i := k) (by simpa using hlt)
      simp only [List.getElem_map, List.getElem_range] at hc
      have c0 : w.cell? ⟨b, off + k * 3, none⟩ = some (.int .i64 (m + k * 3)) := hc 0 _ rfl
      have c1 : w.cell? ⟨b, off + k * 3 + 1, none⟩ = some (.int .i64 (m + k * 3 + 1)) := hc 1 _ rfl
      have c2 : w.cell? ⟨b, off + k * 3 + 2, none⟩ = some (.int .i64 (m + k * 3 + 1 + 1)) := hc 2 _ rfl
      clear hc
      go_wp2
      go_round
      case rel => exact ⟨k + 1, by omega, by go_num, by simp [Int.add_mul]; omega⟩
      case measure => simp [intOf]; omega
    · have : k = n := by omega
      subst this
      go_wp2
      go_ret
      exact ⟨rfl, rfl⟩
end Go.Proofs.YtkkgomldahjocaaDoor
