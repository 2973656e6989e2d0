/- The reference's draws of figures. Condition: the code has at most 4096 bytes. -/
import Derived.Test.YtcpnmeebbbeakaaDraw1
import Derived.Deep.RegionHeld3
namespace Go.Proofs.Ytcpnmeebbbeakaa
open Go.RowKit
set_option maxRecDepth 100000 in
set_option maxHeartbeats 400000 in
theorem l02Valid_c (A : Option Addr) (n c g : Nat) (w : World) (hS : Src w A n c g) : Calls Try.prog 169 #[.pointer (some ⟨g, 0, none⟩)] w (DF A n c g w) := by
  have hG : w.grownBy (w.alloc (.cells #[.int .i64 0, .int .i64 0] 36)) (some g) := grown_alloc _ _
  have hlt := hS.lt
  have Br := Blk.new w 36 #[.int .i64 0, .int .i64 0]
  have hS := hS.alloc (.cells #[.int .i64 0, .int .i64 0] 36)
  unfold DF
  go_enter Try.func169, Try.ntmps169
  go_wp2_with (first | (go_at_call 129; refine (l01Next_c A n c g _ _ (by with_reducible exact hS)).mono ?_; rintro e w1 ⟨r, rfl, ⟨hr1, hr2⟩, hr3, hS, hg⟩; have hG := hG.trans hg; have Br := Br.src hg (by omega); clear hg; have c0 : w1.cell? ⟨w.heap.size, 0, none⟩ = some (.int .i64 0) := Br.cell 0; have c1 : w1.cell? ⟨w.heap.size, 1, none⟩ = some (.int .i64 0) := Br.cell 1; have f0 := Br.frozen 0; have f1 := Br.frozen 1; have z := Br.lt) | (go_at_call 168; refine (l01Pick_n A n c g _ _ _ _ hS (by simp; omega) (by rfl) (by decide) (by decide)).mono ?_; rintro e w1 ⟨p, rfl, ⟨hp1, hp2⟩, hS, hg⟩; have hG := hG.trans hg; have Br := Br.src hg (by omega); clear hg))
  refine bodyPost_ret (v := .agg #[.int .i64 p, .int .i64 (r - 3)]) (by simp [results, Try.results169, go_sem, c0, c1]) rfl ⟨p, r - 3, rfl, by omega, by omega, (hS.far (by simp only; omega)).far (by simp only; omega), grown_far (grown_far hG (by simp)) (by simp)⟩
set_option maxRecDepth 100000 in
set_option maxHeartbeats 400000 in
theorem l02Draw_c (A : Option Addr) (n c g : Nat) (w : World) (hS : Src w A n c g) : Calls Try.prog 118 #[.pointer (some ⟨g, 0, none⟩)] w (DF A n c g w) := by
  have hG : w.grownBy (w.alloc (.cells #[.int .i64 0, .int .i64 0] 36)) (some g) := grown_alloc _ _
  have hlt := hS.lt
  have Br := Blk.new w 36 #[.int .i64 0, .int .i64 0]
  have hS := hS.alloc (.cells #[.int .i64 0, .int .i64 0] 36)
  unfold DF
  go_enter Try.func118, Try.ntmps118
  go_wp2_with fail
  refine (l02Valid_c A n c g _ hS).mono ?_; rintro e w1 ⟨a, b, rfl, ⟨ha1, ha2⟩, ⟨hb1, hb2⟩, hS1, hg1⟩
  have hG1 := hG.trans hg1
  have Br1 := Br.src hg1 (by omega)
  have hlt1 := hS1.lt
  have hz1 := Br1.lt
  go_wp2_with fail
  refine (l01Next_c A n c g _ _ (hS1.alloc _)).mono ?_; rintro e w2 ⟨r, rfl, hr, hr3, hS2, hg2⟩
  have hG2 := hG1.trans ((grown_alloc _ _).trans hg2)
  have Br2 := (Br1.alloc (.cells #[.int .i64 a, .int .i64 b] 36)).src hg2 (by omega)
  have Bf2 := (Blk.new w1 36 #[.int .i64 a, .int .i64 b]).src hg2 (by omega)
  have c0 : w2.cell? ⟨w.heap.size, 0, none⟩ = some (.int .i64 0) := Br2.cell 0
  have c1 : w2.cell? ⟨w.heap.size, 1, none⟩ = some (.int .i64 0) := Br2.cell 1
  have f0 := Br2.frozen 0
  have f1 := Br2.frozen 1
  have z := Br2.lt
  have x0 : w2.cell? ⟨w1.heap.size, 0, none⟩ = some (.int .i64 a) := Bf2.cell 0
  have x1 : w2.cell? ⟨w1.heap.size, 1, none⟩ = some (.int .i64 b) := Bf2.cell 1
  have xz := Bf2.lt
  clear hg1 hg2 hG hG1 Br Br1
  have hne : w1.heap.size ≠ w.heap.size := by omega
  by_cases h0 : r = 0
  · subst h0
    go_wp2_with (go_at_call 168; refine (l01Pick_n A n c g _ _ _ _ hS2 (by simp) (by rfl) (by decide) (by decide)).mono ?_; rintro e w3 ⟨p, rfl, ⟨hp1, hp2⟩, hS3, hg3⟩; have hG3 := hG2.trans hg3; have Br3 := Br2.src hg3 (by omega); have Bf3 := Bf2.src hg3 (by omega); clear hg3 c0 c1 f0 f1 x0 x1; have c0 : w3.cell? ⟨w.heap.size, 0, none⟩ = some (.int .i64 0) := Br3.cell 0; have c1 : w3.cell? ⟨w.heap.size, 1, none⟩ = some (.int .i64 0) := Br3.cell 1; have f0 := Br3.frozen 0; have f1 := Br3.frozen 1; have z3 := Br3.lt; have x0 : w3.cell? ⟨w1.heap.size, 0, none⟩ = some (.int .i64 a) := Bf3.cell 0; have x1 : w3.cell? ⟨w1.heap.size, 1, none⟩ = some (.int .i64 b) := Bf3.cell 1; have xf0 := Bf3.frozen 0; have xz3 := Bf3.lt)
    refine bodyPost_ret (v := .agg #[.int .i64 p, .int .i64 b]) (by simp [results, Try.results118, go_sem, c0, c1]) rfl ⟨p, b, rfl, by omega, by omega, ((hS3.far (by simp only; omega)).far (by simp only; omega)).far (by simp only; omega), grown_far (grown_far (grown_far hG3 (by simp only; omega)) (by simp)) (by simp)⟩
  · by_cases h1 : r = 1
    · subst h1
      go_wp2_with (go_at_call 168; refine (l01Pick_n A n c g _ _ _ _ hS2 (by simp) (by rfl) (by decide) (by decide)).mono ?_; rintro e w3 ⟨p, rfl, ⟨hp1, hp2⟩, hS3, hg3⟩; have hG3 := hG2.trans hg3; have Br3 := Br2.src hg3 (by omega); have Bf3 := Bf2.src hg3 (by omega); clear hg3 c0 c1 f0 f1 x0 x1; have c0 : w3.cell? ⟨w.heap.size, 0, none⟩ = some (.int .i64 0) := Br3.cell 0; have c1 : w3.cell? ⟨w.heap.size, 1, none⟩ = some (.int .i64 0) := Br3.cell 1; have f0 := Br3.frozen 0; have f1 := Br3.frozen 1; have z3 := Br3.lt; have x0 : w3.cell? ⟨w1.heap.size, 0, none⟩ = some (.int .i64 a) := Bf3.cell 0; have x1 : w3.cell? ⟨w1.heap.size, 1, none⟩ = some (.int .i64 b) := Bf3.cell 1; have xf1 := Bf3.frozen 1; have xz3 := Bf3.lt)
      refine bodyPost_ret (v := .agg #[.int .i64 a, .int .i64 p]) (by simp [results, Try.results118, go_sem, c0, c1]) rfl ⟨a, p, rfl, by omega, by omega, ((hS3.far (by simp only; omega)).far (by simp only; omega)).far (by simp only; omega), grown_far (grown_far (grown_far hG3 (by simp only; omega)) (by simp)) (by simp)⟩
    · go_wp2_with fail
      refine bodyPost_ret (v := .agg #[.int .i64 a, .int .i64 b]) (by simp [results, Try.results118, go_sem, c0, c1]) rfl ⟨a, b, rfl, by omega, by omega, (hS2.far (by simp only; omega)).far (by simp only; omega), grown_far (grown_far hG2 (by simp)) (by simp)⟩
end Go.Proofs.Ytcpnmeebbbeakaa
