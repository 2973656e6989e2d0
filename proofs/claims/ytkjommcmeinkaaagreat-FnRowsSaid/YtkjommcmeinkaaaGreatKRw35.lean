/- The reference's draw for missing marks: a graduation, a row, two marks. Condition: the code has at most 4096 bytes. -/
import Derived.Test.YtkjommcmeinkaaaGreatKRw34
set_option linter.unusedSimpArgs false
namespace Go.Proofs.YtkjommcmeinkaaaGreat
open Go.RowKit
set_option maxRecDepth 100000 in
set_option maxHeartbeats 1600000 in
theorem drawMissingMarks_c (A : Option Addr) (n c : Nat) (w : World) (hn : n ≤ 4096) (hb : Bytes w A n w.heap.size) :
    Calls Tryz.prog 11 #[.slice A n c] w fun e w' => ∃ (G : List Part) (Ag : Option Addr) (cg : Nat) (R : List Tick) (A' : Option Addr) (c' : Nat) (x y : Int), e = .returned (.tuple #[.slice Ag G.length cg, .slice A' R.length c', .int .i64 x, .int .i64 y]) ∧ G.length ≤ 100 ∧ R.length ≤ 100 ∧ Own w' w.heap.size 78 3 (.slice Ag G.length cg) (G.map Part.cells) ∧ Own w' w.heap.size 25 3 (.slice A' R.length c') (R.map Tick.cells) ∧ Below w.heap.size w w' := by
  have hF := Lib.hid (l01From_c A n c w hn hb)
  clear hb
  go_enter Tryz.func11, Tryz.ntmps11
  go_wp2_with (go_at_call 20; refine hF.out.mono ?_; rintro e w1 ⟨rfl, hS, hB⟩)
  have hw1 := hS.lt
  refine (l29Draw_c A n c _ _ hS).mono ?_; rintro e w2 ⟨sc, ln, R, A', c', rfl, hR, hO, hS, hg⟩
  have hlt1 := hB.size
  have hB := below_src hB hg hB.size (Nat.le_refl _)
  clear hg
  go_wp2_with fail
  refine (l01Next_c A n c _ _ _ hS).mono ?_; rintro e w3 ⟨r, rfl, ⟨ra, rb⟩, rd, hS, hg⟩
  have hO := hO.src hg hw1
  have hB := below_src hB hg hB.size (Nat.le_refl _)
  clear hg
  have hB3 := hB.size
  have hS3 := hS.lt
  go_wp2_with fail
  refine (l07Draw_c A n c _ _ hS).mono ?_; rintro e w4 ⟨G, Ag, cg, rfl, hGl, hP, hS, hg⟩
  have hO := hO.src hg hw1
  have hB := below_src hB hg hB.size (Nat.le_refl _)
  clear hg
  go_wp2_with fail
  refine (l01Pick_n A n c _ #[.int .i64 (1000 + r + 1000), .int .i64 (1000 + r + 3000), .int .i64 9999, .int .i64 10000, .int .i64 (1000 + r - 1)] 5 5 _ hS (by intro v hv; simp only [List.mem_cons, List.not_mem_nil, or_false] at hv; rcases hv with rfl | rfl | rfl | rfl | rfl; all_goals exact ⟨_, rfl, by omega, by omega⟩) rfl (by decide) (by decide)).mono ?_; rintro e w5 ⟨q, rfl, ⟨qa, qb⟩, hS, hg⟩
  have hO := hO.src hg hw1
  have hP := hP.src hg (by omega)
  have hB := below_src hB hg hB.size (Nat.le_refl _)
  clear hg
  go_wp2_with fail
  refine bodyPost_ret (v := .tuple #[.slice Ag G.length cg, .slice A' R.length c', .int .i64 (1000 + r), .int .i64 q]) (by simp [results, Tryz.results11, go_sem]) rfl ⟨G, Ag, cg, R, A', c', _, q, rfl, hGl, hR, hP.mono hB3, hO.mono hlt1, hB⟩
end Go.Proofs.YtkjommcmeinkaaaGreat
