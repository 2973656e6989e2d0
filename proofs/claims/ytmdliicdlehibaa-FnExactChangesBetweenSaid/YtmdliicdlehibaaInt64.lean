/- Slices of int64: the laws' copies, comparisons and marks of them. No condition beyond the length. -/
import Derived.Test.YtmdliicdlehibaaNum
import Derived.Test.YtmdliicdlehibaaApp
import Derived.StillTailTactics
namespace Go.Proofs.Ytmdliicdlehibaa
open Go.RowKit
/-- one int64, as a row of one cell -/
def ic (n : Int) : List Value := [.int .i64 n]
theorem ic_one {x : List Int} : ∀ y ∈ x.map ic, ∀ u ∈ y, u.oneCell' = true := fun y hy u hu => by
  obtain ⟨n, _, rfl⟩ := List.mem_map.1 hy
  simp only [ic, List.mem_singleton] at hu
  subst hu
  rfl
theorem info_Int64 : (Try.prog.info? 2).map (fun i => (i.zero, i.size, i.bytes)) = some (some (.int .i64 0), 1, 8) := by kernel_rfl
/-- a cell of a slice of int64 -/
theorem Sl.int {w : World} {B : Nat} {A : Option Addr} {l : List Int} (h : Sl w B 1 A (l.map ic)) {k : Nat} (hk : k < l.length) : ∃ b off, A = some ⟨b, off, none⟩ ∧ b < B ∧ w.cell? ⟨b, off + k, none⟩ = some (.int .i64 l[k]) := by
  obtain ⟨b, off, rfl, hb, hc⟩ := h.at_ (i := k) (by simpa using hk)
  refine ⟨b, off, rfl, hb, ?_⟩
  have := hc 0 (.int .i64 l[k]) (by simp [ic])
  simpa using this
set_option maxRecDepth 100000 in
theorem eqInt64S_c (A A' : Option Addr) (c c' : Nat) (l : List Int) (w : World) (hl : l.length ≤ 140737488351232) (hs : Sl w w.heap.size 1 A (l.map ic)) (hs' : Sl w w.heap.size 1 A' (l.map ic)) :
   Calls Try.prog 13 #[.slice A l.length c, .slice A' l.length c'] w fun e w' => e = .returned (.bool true) ∧ Below w.heap.size w w' := by
  go_enter Try.func13, Try.ntmps13
  go_wp2_with fail
  go_loopw [5] (fun i wr => ∃ k : Nat, k ≤ l.length ∧ i = .int .i64 k ∧ Below w.heap.size w wr) (fun i _ => l.length - (intOf i).toNat)
  case atStart => exact ⟨0, Nat.zero_le _, rfl, Below.refl _ _⟩
  case round =>
    obtain ⟨k, hk, rfl, hb⟩ := hrel
    by_cases hlt : k < l.length
    · obtain ⟨b, off, rfl, hbB, hc⟩ := hs.int hlt
      obtain ⟨b', off', rfl, hbB', hc'⟩ := hs'.int hlt
      have c0 : wr.cell? ⟨b, off + k, none⟩ = some (.int .i64 l[k]) := by rw [hb.cell hbB]; exact hc
      have d0 : wr.cell? ⟨b', off' + k, none⟩ = some (.int .i64 l[k]) := by rw [hb.cell hbB']; exact hc'
      clear hc hc'
      go_wp2_with fail
      go_quiet (fail)
      go_wp2
      go_roundw
      case rel => exact ⟨k + 1, by omega, by go_num, (by repeat (first | with_reducible exact hb | with_reducible apply below_drewN' | with_reducible apply Below.drew | (with_reducible refine Below.alloc ?_ (by first | omega | (simp; omega) | simp | (have := (hb).size; omega) | (have := (hb).size; simp; omega)) _) | (with_reducible refine Below.setCell ?_ (by first | omega | (simp; omega) | simp | (have := (hb).size; omega) | (have := (hb).size; simp; omega)) _) | exact hb))⟩
      case measure => simp [intOf]; omega
    · have : k = l.length := by omega
      subst this
      go_wp2
      go_ret
      exact ⟨rfl, hb⟩
def markInt64 (m : Int) (i : Nat) : List Value := [.int .i64 (m + i)]
set_option maxRecDepth 100000 in
theorem markInt64S_c (A : Option Addr) (c base : Nat) (m : Int) (xs : List (List Value)) (w : World) (hm : 0 ≤ m ∧ m ≤ 1000000000) (hl : xs.length ≤ 10000000) (hO : Own w base 2 1 (.slice A xs.length c) xs) :
    Calls Try.prog 15 #[.slice A xs.length c, .int .i64 m] w fun e w' => e = .returned (.int .i64 (m + xs.length)) ∧ Own w' base 2 1 (.slice A xs.length c) ((List.range xs.length).map (markInt64 m)) ∧ w.grownBy w' (Value.slice A xs.length c).ownBlock := by
  go_enter Try.func15, Try.ntmps15
  go_wp2_with fail
  go_loopw [1, 5] (fun q i wr => ∃ k : Nat, k ≤ xs.length ∧ i = .int .i64 k ∧ q = .int .i64 (m + k) ∧ w.grownBy wr (Value.slice A xs.length c).ownBlock ∧
      Own wr base 2 1 (.slice A xs.length c) ((List.range k).map (markInt64 m) ++ xs.drop k)) (fun _ i _ => xs.length - (intOf i).toNat)
  case atStart => exact ⟨0, Nat.zero_le _, rfl, by simp, World.grownBy.refl _ _, by simpa using hO⟩
  case round =>
    obtain ⟨k, hk, rfl, rfl, hg, hO1⟩ := hrel
    by_cases hlt : k < xs.length
    · have hkl : k < ((List.range k).map (markInt64 m) ++ xs.drop k).length := by simp; omega
      obtain ⟨_, b, off, rfl, _, _⟩ := hO1.sl k _ (List.getElem?_eq_getElem hkl)
      obtain rfl := hO1.off0 hkl
      obtain ⟨v0, e0⟩ : ∃ v, wr.cell? ⟨b, k * 1, none⟩ = some v := hO1.cell (i := k) (j := 0) hkl (by omega)
      have f0 : wr.frozen? ⟨b, k * 1, none⟩ = false := hO1.frozen _
      rw [Nat.mul_one] at e0 f0
      clear hO
      go_wp2
      go_roundw
      case rel =>
        refine ⟨k + 1, by omega, by go_num, ?_, ?_, ?_⟩
        · simp; omega
        · have := grownBy_stores (markInt64 m k) (k * 1) hg
          rw [Nat.mul_one] at this
          exact this
        · have h := hO1.store (i := k) hkl (markInt64 m k) rfl
          rw [marks_next _ hlt, Nat.mul_one] at h
          exact h
      case measure => simp [intOf]; omega
    · have : k = xs.length := by omega
      subst this
      go_wp2
      go_ret
      rw [List.drop_of_length_le (Nat.le_refl _), List.append_nil] at hO1
      exact ⟨rfl, hO1, hg⟩
set_option maxRecDepth 100000 in
theorem heldInt64S_c (A : Option Addr) (n c : Nat) (m : Int) (w : World) (hm : 0 ≤ m ∧ m ≤ 1000000000) (hl : n ≤ 10000000) (hs : Sl w w.heap.size 1 A ((List.range n).map (markInt64 m))) :
    Calls Try.prog 16 #[.slice A n c, .int .i64 m] w fun e w' => e = .returned (.int .i64 (m + n)) ∧ w = w' := by
  go_enter Try.func16, Try.ntmps16
  go_wp2_with fail
  go_loop [1, 5] (fun q i => ∃ k : Nat, k ≤ n ∧ i = .int .i64 k ∧ q = .int .i64 (m + k)) (fun _ i => n - (intOf i).toNat)
  case atStart => exact ⟨0, Nat.zero_le _, rfl, by simp⟩
  case round =>
    obtain ⟨k, hk, rfl, rfl⟩ := hrel
    by_cases hlt : k < n
    · obtain ⟨b, off, rfl, hbB, hc⟩ := hs.at_ (i := k) (by simpa using hlt)
      simp only [List.getElem_map, List.getElem_range] at hc
      have c0 : w.cell? ⟨b, off + k, none⟩ = some (.int .i64 (m + k)) := by have := hc 0 _ rfl; simpa using this
      clear hc
      go_wp2
      go_round
      case rel => exact ⟨k + 1, by omega, by go_num, by simp; omega⟩
      case measure => simp [intOf]; omega
    · have : k = n := by omega
      subst this
      go_wp2
      go_ret
      exact ⟨rfl, rfl⟩
end Go.Proofs.Ytmdliicdlehibaa
