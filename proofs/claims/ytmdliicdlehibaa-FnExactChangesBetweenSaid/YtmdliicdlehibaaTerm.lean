/- Term: the structure, the laws' copies and comparisons of it. No condition beyond the length. -/
import Derived.Test.YtmdliicdlehibaaNum
import Derived.Test.YtmdliicdlehibaaNest
import Derived.StillTailTactics
namespace Go.Proofs.Ytmdliicdlehibaa
open Go.RowKit
@[ext] structure Term where
  digits : Int
  tens : Int
  div : Bool
deriving DecidableEq
def Term.cells (s : Term) : List Value := [.int .i64 s.digits, .int .i64 s.tens, .bool s.div]
def Term.agg (s : Term) : Value := .agg #[.int .i64 s.digits, .int .i64 s.tens, .bool s.div]

theorem szTermS_c (A : Option Addr) (n c : Nat) (left : Int) (w : World) (hn : n ≤ 140737488351232) (hl : 0 ≤ left ∧ left ≤ 1048576) :
   Calls Try.prog 35 #[.slice A n c, .int .i64 left] w fun e w' => e = .returned (.int .i64 (if left < n then -1 else left - n)) ∧ w = w' := by
  obtain ⟨h1, h2⟩ := hl
  by_cases h : left < n
  · have h' : left - n < 0 := by omega
    rw [if_pos h]
    go_enter Try.func35, Try.ntmps35
    go_wp2
    go_ret
    exact ⟨rfl, rfl⟩
  · have h' : ¬ left - n < 0 := by omega
    rw [if_neg h]
    go_enter Try.func35, Try.ntmps35
    go_wp2
    go_ret
    exact ⟨rfl, rfl⟩

set_option maxRecDepth 100000 in
theorem eqTermS_c (A A' : Option Addr) (c c' : Nat) (l : List Term) (w : World) (hl : l.length ≤ 140737488351232) (hs : Sl w w.heap.size 3 A (l.map Term.cells)) (hs' : Sl w w.heap.size 3 A' (l.map Term.cells)) :
   Calls Try.prog 49 #[.slice A l.length c, .slice A' l.length c'] w fun e w' => e = .returned (.bool true) ∧ Below w.heap.size w w' := by
  go_enter Try.func49, Try.ntmps49
  go_wp2_with fail
  go_loopw [5] (fun i wr => ∃ k : Nat, k ≤ l.length ∧ i = .int .i64 k ∧ Below w.heap.size w wr) (fun i _ => l.length - (intOf i).toNat)
  case atStart => exact ⟨0, Nat.zero_le _, rfl, Below.refl _ _⟩
  case round =>
    obtain ⟨k, hk, rfl, hb⟩ := hrel
    by_cases hlt : k < l.length
    · obtain ⟨b, off, rfl, hbB, hc⟩ := hs.at_ (i := k) (by simpa using hlt)
      obtain ⟨b', off', rfl, hbB', hc'⟩ := hs'.at_ (i := k) (by simpa using hlt)
      simp only [List.getElem_map] at hc hc'
      have c0 : wr.cell? ⟨b, off + k * 3, none⟩ = some (.int .i64 l[k].digits) := by rw [hb.cell hbB]; exact hc 0 _ rfl
      have c1 : wr.cell? ⟨b, off + k * 3 + 1, none⟩ = some (.int .i64 l[k].tens) := by rw [hb.cell hbB]; exact hc 1 _ rfl
      have c2 : wr.cell? ⟨b, off + k * 3 + 2, none⟩ = some (.bool l[k].div) := by rw [hb.cell hbB]; exact hc 2 _ rfl
      have d0 : wr.cell? ⟨b', off' + k * 3, none⟩ = some (.int .i64 l[k].digits) := by rw [hb.cell hbB']; exact hc' 0 _ rfl
      have d1 : wr.cell? ⟨b', off' + k * 3 + 1, none⟩ = some (.int .i64 l[k].tens) := by rw [hb.cell hbB']; exact hc' 1 _ rfl
      have d2 : wr.cell? ⟨b', off' + k * 3 + 2, none⟩ = some (.bool l[k].div) := by rw [hb.cell hbB']; exact hc' 2 _ rfl
      clear hc hc'
      go_wp2_with fail
      go_still_tail 8, (by kernel_rfl)
      change wpList _ _ _ _ _ wr.drew
      have hb : Below w.heap.size w wr.drew := hb.drew
      generalize wr.drew = w2 at hb ⊢
      clear c0 c1 c2 d0 d1 d2
      go_wp2_with (go_at_call 79; refine (eqTerm_c _ _ _ _).mono ?_; rintro e w1 ⟨rfl, hb1⟩)
      go_roundw
      case rel => exact ⟨k + 1, by omega, by go_num, hb.trans (hb1.mono hb.size)⟩
      case measure => simp [intOf]; omega
    · have : k = l.length := by omega
      subst this
      go_wp2
      go_ret
      exact ⟨rfl, hb⟩

theorem info_Term : (Try.prog.info? 103).map (fun i => (i.zero, i.size, i.bytes)) = some (some (.agg #[.int .i64 0, .int .i64 0, .bool false]), 3, 24) := by kernel_rfl

set_option maxRecDepth 100000 in
theorem toTermS_c (A : Option Addr) (c : Nat) (l : List Term) (w : World) (hl : l.length ≤ 1048576) (hs : Sl w w.heap.size 3 A (l.map Term.cells)) :
    Calls Try.prog 42 #[.slice A l.length c] w fun e w' => ∃ A' c', e = .returned (.slice A' l.length c') ∧ Own w' w.heap.size 103 3 (.slice A' l.length c') (l.map Term.cells) ∧ Below w.heap.size w w' := by
  obtain ⟨i0, hi, hz0, hz1, hz2⟩ := info_parts info_Term
  go_enter Try.func42, Try.ntmps42
  go_wp2_with (refine wpList_make_full _ rfl (.tmp 6) (.tmp 6) 61 rfl w.heap.size 103 i0 _ 3 Try.underlying61 hi hz0 hz1 .i64 .i64 _ _ l.length rfl rfl rfl rfl (by rw [hz2]; omega) (by unfold maxLen; omega) (Nat.le_refl _) ?_; intro w1 hown hg)
  have hb1 : Below w.heap.size w w1 := (Below.refl _ _).grown hg (Nat.le_refl _) (fun k h => by cases h)
  have hO : Own w1 w.heap.size 103 3 (.slice (some ⟨w.heap.size, 0, none⟩) l.length l.length) ((l.map Term.cells).take 0 ++ List.replicate (l.length - 0) [Value.int .i64 0, .int .i64 0, .bool false]) := by
    refine ⟨?_, by simp⟩
    rw [made_rows _ 3 _ rfl (by omega)] at hown
    simpa [Value.cells] using hown
  clear hown hg
  generalize hgs : w.heap.size = g at hO ⊢
  go_loopw [4] (fun i wr => ∃ k : Nat, k ≤ l.length ∧ i = .int .i64 k ∧ Below w.heap.size w wr ∧
      Own wr w.heap.size 103 3 (.slice (some ⟨g, 0, none⟩) l.length l.length) ((l.map Term.cells).take k ++ List.replicate (l.length - k) [Value.int .i64 0, .int .i64 0, .bool false])) (fun i _ => l.length - (intOf i).toNat)
  case atStart => exact ⟨0, Nat.zero_le _, rfl, hb1, by rw [hgs]; exact hO⟩
  case round =>
    obtain ⟨k, hk, rfl, hb, hO⟩ := hrel
    by_cases hlt : k < l.length
    · obtain ⟨b, off, rfl, hbB, hc⟩ := hs.at_ (i := k) (by simpa using hlt)
      simp only [List.getElem_map] at hc
      have c0 : wr.cell? ⟨b, off + k * 3, none⟩ = some (.int .i64 l[k].digits) := by rw [hb.cell hbB]; exact hc 0 _ rfl
      have c1 : wr.cell? ⟨b, off + k * 3 + 1, none⟩ = some (.int .i64 l[k].tens) := by rw [hb.cell hbB]; exact hc 1 _ rfl
      have c2 : wr.cell? ⟨b, off + k * 3 + 2, none⟩ = some (.bool l[k].div) := by rw [hb.cell hbB]; exact hc 2 _ rfl
      clear hc
      go_wp2_with (go_at_call 72; refine (toTerm_c _ _ _ _).mono ?_; rintro e w2 ⟨rfl, hb2⟩; have hO2 := hO.below hb2; have hkl : k < ((l.map Term.cells).take k ++ List.replicate (l.length - k) [Value.int .i64 0, .int .i64 0, .bool false]).length := (by simp; omega); obtain ⟨v0, e0⟩ : ∃ v, w2.cell? ⟨g, k * 3, none⟩ = some v := hO2.cell (i := k) (j := 0) hkl (by omega); obtain ⟨v1, e1⟩ : ∃ v, w2.cell? ⟨g, k * 3 + 1, none⟩ = some v := hO2.cell (i := k) (j := 1) hkl (by omega); obtain ⟨v2, e2⟩ : ∃ v, w2.cell? ⟨g, k * 3 + 2, none⟩ = some v := hO2.cell (i := k) (j := 2) hkl (by omega); have f0 : w2.frozen? ⟨g, k * 3, none⟩ = false := hO2.frozen _; have f1 : w2.frozen? ⟨g, k * 3 + 1, none⟩ = false := hO2.frozen _; have f2 : w2.frozen? ⟨g, k * 3 + 2, none⟩ = false := hO2.frozen _)
      go_roundw
      case rel =>
        refine ⟨k + 1, by omega, by go_num, ?_, ?_⟩
        · exact stores_below (by omega) l[k].cells (k * 3) (hb.trans (hb2.mono hb.size))
        · have h := hO2.store (i := k) hkl l[k].cells rfl
          rw [show ((l.map Term.cells).take k ++ List.replicate (l.length - k) [Value.int .i64 0, .int .i64 0, .bool false]).set k l[k].cells = (l.map Term.cells).take (k + 1) ++ List.replicate (l.length - (k + 1)) [Value.int .i64 0, .int .i64 0, .bool false] from rows_next (by simpa using hlt) (by simp [List.getElem?_eq_getElem hlt])] at h
          exact h
      case measure => simp [intOf]; omega
    · have : k = l.length := by omega
      subst this
      go_wp2
      go_ret
      rw [List.take_of_length_le (by simp), Nat.sub_self, List.replicate_zero, List.append_nil] at hO
      exact ⟨_, _, rfl, hO, hb⟩

end Go.Proofs.Ytmdliicdlehibaa
