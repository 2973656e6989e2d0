/- Charts: the laws' copies and comparisons of them. No condition beyond the lengths. -/
import Derived.Test.YtmdliicdlehibaaForm
namespace Go.Proofs.Ytmdliicdlehibaa
open Go.RowKit
set_option maxRecDepth 100000 in
theorem toChart_c (fd ft : Int) (nm : ByteArray) (A1 : Option Addr) (c1 : Nat) (l1 : List Int) (wd lf rt : Int) (w : World) (h1 : l1.length ≤ 1048576) (hs1 : Sl w w.heap.size 1 A1 (l1.map ic)) :
    Calls Try.prog 25 #[.agg #[.int .i64 fd, .int .i64 ft, .string nm, .slice A1 l1.length c1, .int .i64 wd, .int .i64 lf, .int .i64 rt]] w fun e w' => ∃ B1 d1, e = .returned (.agg #[.int .i64 fd, .int .i64 ft, .string nm, .slice B1 l1.length d1, .int .i64 wd, .int .i64 lf, .int .i64 rt]) ∧ Own w' w.heap.size 2 1 (.slice B1 l1.length d1) (l1.map ic) ∧ Below w.heap.size w w' := by
  go_enter Try.func25, Try.ntmps25
  go_wp2_with fail
  refine (toFormula_c fd ft nm A1 c1 l1 _ (by omega) ((hs1.below ((by repeat (first | with_reducible exact Below.refl _ _ | with_reducible apply below_drewN' | with_reducible apply Below.drew | (with_reducible refine Below.alloc ?_ (by first | omega | (simp; omega) | simp | (have := (Below.refl _ _).size; omega) | (have := (Below.refl _ _).size; simp; omega)) _) | (with_reducible refine Below.setCell ?_ (by first | omega | (simp; omega) | simp | (have := (Below.refl _ _).size; omega) | (have := (Below.refl _ _).size; simp; omega)) _) | exact Below.refl _ _)))).more (by first | omega | (simp; omega) | simp))).mono ?_; rintro e w1 ⟨B1, d1, rfl, hO_1, hb1⟩
  have B0_1 := (((Blk.new w 28 #[.int .i64 fd, .int .i64 ft, .string nm, .slice A1 l1.length c1, .int .i64 wd, .int .i64 lf, .int .i64 rt]).alloc (.cells #[.int .i64 0, .int .i64 0, .string ByteArray.empty, .slice none 0 0, .int .i64 0, .int .i64 0, .int .i64 0] 38)).alloc (.cells #[.int .i64 0, .int .i64 0, .string ByteArray.empty, .slice none 0 0, .int .i64 0, .int .i64 0, .int .i64 0] 38)).below hb1 (by first | omega | (simp; omega) | simp)
  have B1_1 := ((Blk.new' (w.alloc (.cells #[.int .i64 fd, .int .i64 ft, .string nm, .slice A1 l1.length c1, .int .i64 wd, .int .i64 lf, .int .i64 rt] 28)) 38 #[.int .i64 0, .int .i64 0, .string ByteArray.empty, .slice none 0 0, .int .i64 0, .int .i64 0, .int .i64 0] (g := w.heap.size + 1) (by simp)).alloc (.cells #[.int .i64 0, .int .i64 0, .string ByteArray.empty, .slice none 0 0, .int .i64 0, .int .i64 0, .int .i64 0] 38)).below hb1 (by first | omega | (simp; omega) | simp)
  have B2_1 : Blk w1 (w.heap.size + 1 + 1) 38 #[.int .i64 0, .int .i64 0, .string ByteArray.empty, .slice none 0 0, .int .i64 0, .int .i64 0, .int .i64 0] := (Blk.new' ((w.alloc (.cells #[.int .i64 fd, .int .i64 ft, .string nm, .slice A1 l1.length c1, .int .i64 wd, .int .i64 lf, .int .i64 rt] 28)).alloc (.cells #[.int .i64 0, .int .i64 0, .string ByteArray.empty, .slice none 0 0, .int .i64 0, .int .i64 0, .int .i64 0] 38)) 38 #[.int .i64 0, .int .i64 0, .string ByteArray.empty, .slice none 0 0, .int .i64 0, .int .i64 0, .int .i64 0] (g := w.heap.size + 1 + 1) (by simp)).below hb1 (by first | omega | (simp; omega) | simp)
  have hB1 : Below w.heap.size w w1 := Below.trans ((by repeat (first | with_reducible exact Below.refl _ _ | with_reducible apply below_drewN' | with_reducible apply Below.drew | (with_reducible refine Below.alloc ?_ (by first | omega | (simp; omega) | simp | (have := (Below.refl _ _).size; omega) | (have := (Below.refl _ _).size; simp; omega)) _) | (with_reducible refine Below.setCell ?_ (by first | omega | (simp; omega) | simp | (have := (Below.refl _ _).size; omega) | (have := (Below.refl _ _).size; simp; omega)) _) | exact Below.refl _ _))) (hb1.mono (by first | omega | (simp; omega) | simp))
  have hBs1 := hB1.size
  have hZ1 := B2_1.lt
  have lt_1 := fun r hr => (hO_1.1.lt r hr).2
  have ge_1 := hO_1.ownGe
  have hO_1 := own_mono (base' := w.heap.size + 1 + 1 + 1) hO_1 (by first | omega | (simp; omega) | simp)
  have x0_1 : w1.cell? ⟨w.heap.size, 0, none⟩ = some (.int .i64 fd) := B0_1.cell 0
  have y0_1 : w1.cell? ⟨w.heap.size + 1 + 1, 0, none⟩ = some (.int .i64 0) := B2_1.cell 0
  have yf0_1 : w1.frozen? ⟨w.heap.size + 1 + 1, 0, none⟩ = false := B2_1.frozen 0
  have z0_1 : w1.cell? ⟨w.heap.size + 1, 0, none⟩ = some (.int .i64 0) := B1_1.cell 0
  have zf0_1 : w1.frozen? ⟨w.heap.size + 1, 0, none⟩ = false := B1_1.frozen 0
  have x1_1 : w1.cell? ⟨w.heap.size, 1, none⟩ = some (.int .i64 ft) := B0_1.cell 1
  have y1_1 : w1.cell? ⟨w.heap.size + 1 + 1, 1, none⟩ = some (.int .i64 0) := B2_1.cell 1
  have yf1_1 : w1.frozen? ⟨w.heap.size + 1 + 1, 1, none⟩ = false := B2_1.frozen 1
  have z1_1 : w1.cell? ⟨w.heap.size + 1, 1, none⟩ = some (.int .i64 0) := B1_1.cell 1
  have zf1_1 : w1.frozen? ⟨w.heap.size + 1, 1, none⟩ = false := B1_1.frozen 1
  have x2_1 : w1.cell? ⟨w.heap.size, 2, none⟩ = some (.string nm) := B0_1.cell 2
  have y2_1 : w1.cell? ⟨w.heap.size + 1 + 1, 2, none⟩ = some (.string ByteArray.empty) := B2_1.cell 2
  have yf2_1 : w1.frozen? ⟨w.heap.size + 1 + 1, 2, none⟩ = false := B2_1.frozen 2
  have z2_1 : w1.cell? ⟨w.heap.size + 1, 2, none⟩ = some (.string ByteArray.empty) := B1_1.cell 2
  have zf2_1 : w1.frozen? ⟨w.heap.size + 1, 2, none⟩ = false := B1_1.frozen 2
  have x3_1 : w1.cell? ⟨w.heap.size, 3, none⟩ = some (.slice A1 l1.length c1) := B0_1.cell 3
  have y3_1 : w1.cell? ⟨w.heap.size + 1 + 1, 3, none⟩ = some (.slice none 0 0) := B2_1.cell 3
  have yf3_1 : w1.frozen? ⟨w.heap.size + 1 + 1, 3, none⟩ = false := B2_1.frozen 3
  have z3_1 : w1.cell? ⟨w.heap.size + 1, 3, none⟩ = some (.slice none 0 0) := B1_1.cell 3
  have zf3_1 : w1.frozen? ⟨w.heap.size + 1, 3, none⟩ = false := B1_1.frozen 3
  have x4_1 : w1.cell? ⟨w.heap.size, 4, none⟩ = some (.int .i64 wd) := B0_1.cell 4
  have y4_1 : w1.cell? ⟨w.heap.size + 1 + 1, 4, none⟩ = some (.int .i64 0) := B2_1.cell 4
  have yf4_1 : w1.frozen? ⟨w.heap.size + 1 + 1, 4, none⟩ = false := B2_1.frozen 4
  have z4_1 : w1.cell? ⟨w.heap.size + 1, 4, none⟩ = some (.int .i64 0) := B1_1.cell 4
  have zf4_1 : w1.frozen? ⟨w.heap.size + 1, 4, none⟩ = false := B1_1.frozen 4
  have x5_1 : w1.cell? ⟨w.heap.size, 5, none⟩ = some (.int .i64 lf) := B0_1.cell 5
  have y5_1 : w1.cell? ⟨w.heap.size + 1 + 1, 5, none⟩ = some (.int .i64 0) := B2_1.cell 5
  have yf5_1 : w1.frozen? ⟨w.heap.size + 1 + 1, 5, none⟩ = false := B2_1.frozen 5
  have z5_1 : w1.cell? ⟨w.heap.size + 1, 5, none⟩ = some (.int .i64 0) := B1_1.cell 5
  have zf5_1 : w1.frozen? ⟨w.heap.size + 1, 5, none⟩ = false := B1_1.frozen 5
  have x6_1 : w1.cell? ⟨w.heap.size, 6, none⟩ = some (.int .i64 rt) := B0_1.cell 6
  have y6_1 : w1.cell? ⟨w.heap.size + 1 + 1, 6, none⟩ = some (.int .i64 0) := B2_1.cell 6
  have yf6_1 : w1.frozen? ⟨w.heap.size + 1 + 1, 6, none⟩ = false := B2_1.frozen 6
  have z6_1 : w1.cell? ⟨w.heap.size + 1, 6, none⟩ = some (.int .i64 0) := B1_1.cell 6
  have zf6_1 : w1.frozen? ⟨w.heap.size + 1, 6, none⟩ = false := B1_1.frozen 6
  go_wp2_with fail
  refine bodyPost_ret (v := .agg #[.int .i64 fd, .int .i64 ft, .string nm, .slice B1 l1.length d1, .int .i64 wd, .int .i64 lf, .int .i64 rt]) (by simp [results, Try.results25, go_sem, z0_1, z1_1, z2_1, z3_1, z4_1, z5_1, z6_1]) rfl ⟨B1, d1, rfl, own_mono (base := w.heap.size + 1 + 1 + 1) (by repeat (first | with_reducible exact hO_1 | (with_reducible refine own_far ?_ (by first | omega | (simp; omega))))) (by first | omega | (simp; omega) | simp), (by repeat (first | with_reducible exact hB1 | with_reducible apply below_drewN' | with_reducible apply Below.drew | (with_reducible refine Below.alloc ?_ (by first | omega | (simp; omega) | simp | (have := (hB1).size; omega) | (have := (hB1).size; simp; omega)) _) | (with_reducible refine Below.setCell ?_ (by first | omega | (simp; omega) | simp | (have := (hB1).size; omega) | (have := (hB1).size; simp; omega)) _) | exact hB1))⟩

set_option maxRecDepth 100000 in
theorem eqChart_c (fd ft : Int) (nm : ByteArray) (A1 : Option Addr) (c1 : Nat) (A1' : Option Addr) (c1' : Nat) (l1 : List Int) (wd lf rt : Int) (w : World) (h1 : l1.length ≤ 1048576) (hs1 : Sl w w.heap.size 1 A1 (l1.map ic)) (hs2 : Sl w w.heap.size 1 A1' (l1.map ic)) :
    Calls Try.prog 29 #[.agg #[.int .i64 fd, .int .i64 ft, .string nm, .slice A1 l1.length c1, .int .i64 wd, .int .i64 lf, .int .i64 rt], .agg #[.int .i64 fd, .int .i64 ft, .string nm, .slice A1' l1.length c1', .int .i64 wd, .int .i64 lf, .int .i64 rt]] w fun e w' => e = .returned (.bool true) ∧ Below w.heap.size w w' := by
  go_enter Try.func29, Try.ntmps29
  go_wp2_with fail
  refine (eqFormula_c fd ft nm A1 c1 A1' c1' l1 _ (by omega) ((hs1.below ((by repeat (first | with_reducible exact Below.refl _ _ | with_reducible apply below_drewN' | with_reducible apply Below.drew | (with_reducible refine Below.alloc ?_ (by first | omega | (simp; omega) | simp | (have := (Below.refl _ _).size; omega) | (have := (Below.refl _ _).size; simp; omega)) _) | (with_reducible refine Below.setCell ?_ (by first | omega | (simp; omega) | simp | (have := (Below.refl _ _).size; omega) | (have := (Below.refl _ _).size; simp; omega)) _) | exact Below.refl _ _)))).more (by first | omega | (simp; omega) | simp)) ((hs2.below ((by repeat (first | with_reducible exact Below.refl _ _ | with_reducible apply below_drewN' | with_reducible apply Below.drew | (with_reducible refine Below.alloc ?_ (by first | omega | (simp; omega) | simp | (have := (Below.refl _ _).size; omega) | (have := (Below.refl _ _).size; simp; omega)) _) | (with_reducible refine Below.setCell ?_ (by first | omega | (simp; omega) | simp | (have := (Below.refl _ _).size; omega) | (have := (Below.refl _ _).size; simp; omega)) _) | exact Below.refl _ _)))).more (by first | omega | (simp; omega) | simp))).mono ?_; rintro e w1 ⟨rfl, hb1⟩
  have B0_1 := ((Blk.new w 38 #[.int .i64 fd, .int .i64 ft, .string nm, .slice A1 l1.length c1, .int .i64 wd, .int .i64 lf, .int .i64 rt]).alloc (.cells #[.int .i64 fd, .int .i64 ft, .string nm, .slice A1' l1.length c1', .int .i64 wd, .int .i64 lf, .int .i64 rt] 38)).below hb1 (by first | omega | (simp; omega) | simp)
  have B1_1 := (Blk.new' (w.alloc (.cells #[.int .i64 fd, .int .i64 ft, .string nm, .slice A1 l1.length c1, .int .i64 wd, .int .i64 lf, .int .i64 rt] 38)) 38 #[.int .i64 fd, .int .i64 ft, .string nm, .slice A1' l1.length c1', .int .i64 wd, .int .i64 lf, .int .i64 rt] (g := w.heap.size + 1) (by simp)).below hb1 (by first | omega | (simp; omega) | simp)
  have hB1 : Below w.heap.size w w1 := Below.trans ((by repeat (first | with_reducible exact Below.refl _ _ | with_reducible apply below_drewN' | with_reducible apply Below.drew | (with_reducible refine Below.alloc ?_ (by first | omega | (simp; omega) | simp | (have := (Below.refl _ _).size; omega) | (have := (Below.refl _ _).size; simp; omega)) _) | (with_reducible refine Below.setCell ?_ (by first | omega | (simp; omega) | simp | (have := (Below.refl _ _).size; omega) | (have := (Below.refl _ _).size; simp; omega)) _) | exact Below.refl _ _))) (hb1.mono (by first | omega | (simp; omega) | simp))
  have hBs1 := hB1.size
  have hZ1 := B1_1.lt
  have x0_1 : w1.cell? ⟨w.heap.size, 0, none⟩ = some (.int .i64 fd) := B0_1.cell 0
  have y0_1 : w1.cell? ⟨w.heap.size + 1, 0, none⟩ = some (.int .i64 fd) := B1_1.cell 0
  have x1_1 : w1.cell? ⟨w.heap.size, 1, none⟩ = some (.int .i64 ft) := B0_1.cell 1
  have y1_1 : w1.cell? ⟨w.heap.size + 1, 1, none⟩ = some (.int .i64 ft) := B1_1.cell 1
  have x2_1 : w1.cell? ⟨w.heap.size, 2, none⟩ = some (.string nm) := B0_1.cell 2
  have y2_1 : w1.cell? ⟨w.heap.size + 1, 2, none⟩ = some (.string nm) := B1_1.cell 2
  have x3_1 : w1.cell? ⟨w.heap.size, 3, none⟩ = some (.slice A1 l1.length c1) := B0_1.cell 3
  have y3_1 : w1.cell? ⟨w.heap.size + 1, 3, none⟩ = some (.slice A1' l1.length c1') := B1_1.cell 3
  have x4_1 : w1.cell? ⟨w.heap.size, 4, none⟩ = some (.int .i64 wd) := B0_1.cell 4
  have y4_1 : w1.cell? ⟨w.heap.size + 1, 4, none⟩ = some (.int .i64 wd) := B1_1.cell 4
  have x5_1 : w1.cell? ⟨w.heap.size, 5, none⟩ = some (.int .i64 lf) := B0_1.cell 5
  have y5_1 : w1.cell? ⟨w.heap.size + 1, 5, none⟩ = some (.int .i64 lf) := B1_1.cell 5
  have x6_1 : w1.cell? ⟨w.heap.size, 6, none⟩ = some (.int .i64 rt) := B0_1.cell 6
  have y6_1 : w1.cell? ⟨w.heap.size + 1, 6, none⟩ = some (.int .i64 rt) := B1_1.cell 6
  go_wp2_with fail
  go_ret
  exact ⟨rfl, (by repeat (first | with_reducible exact hB1 | with_reducible apply below_drewN' | with_reducible apply Below.drew | (with_reducible refine Below.alloc ?_ (by first | omega | (simp; omega) | simp | (have := (hB1).size; omega) | (have := (hB1).size; simp; omega)) _) | (with_reducible refine Below.setCell ?_ (by first | omega | (simp; omega) | simp | (have := (hB1).size; omega) | (have := (hB1).size; simp; omega)) _) | exact hB1))⟩
set_option maxRecDepth 100000 in
theorem szChart_c (fd ft : Int) (nm : ByteArray) (A1 : Option Addr) (n1 c1 : Nat) (wd lf rt : Int) (left : Int) (w : World) (hn : n1 ≤ 140737488351232) (hm : nm.size ≤ maxLen) (hl : 0 ≤ left ∧ left ≤ 1048576) :
    Calls Try.prog 22 #[.agg #[.int .i64 fd, .int .i64 ft, .string nm, .slice A1 n1 c1, .int .i64 wd, .int .i64 lf, .int .i64 rt], .int .i64 left] w (SzP left (nm.size ≤ 1048576 ∧ n1 ≤ 1048576) w) := by
  have H := Lib.hid (fun W => szFormula_c fd ft nm A1 n1 c1 left W hn hm hl)
  have hW : Below w.heap.size w (w.alloc (.cells #[.int .i64 fd, .int .i64 ft, .string nm, .slice A1 n1 c1, .int .i64 wd, .int .i64 lf, .int .i64 rt] 28)) := (by repeat (first | with_reducible exact Below.refl _ _ | with_reducible apply below_drewN' | with_reducible apply Below.drew | (with_reducible refine Below.alloc ?_ (by first | omega | (simp; omega) | simp | (have := (Below.refl _ _).size; omega) | (have := (Below.refl _ _).size; simp; omega)) _) | (with_reducible refine Below.setCell ?_ (by first | omega | (simp; omega) | simp | (have := (Below.refl _ _).size; omega) | (have := (Below.refl _ _).size; simp; omega)) _) | exact Below.refl _ _))
  go_enter Try.func22, Try.ntmps22
  go_wp2_with fail
  refine Calls.mono (H.out _) ?_; rintro e w1 ⟨⟨v, rfl, hv⟩, hb1⟩
  have hW1 := hW.trans (hb1.mono hW.size)
  rcases hv with hv | ⟨hv0, hv1, hlen⟩
  · go_wp2
    go_ret
    exact ⟨⟨-1, rfl, .inl (by omega)⟩, (by repeat (first | with_reducible exact hW1 | with_reducible apply below_drewN' | with_reducible apply Below.drew | (with_reducible refine Below.alloc ?_ (by first | omega | (simp; omega) | simp | (have := (hW1).size; omega) | (have := (hW1).size; simp; omega)) _) | (with_reducible refine Below.setCell ?_ (by first | omega | (simp; omega) | simp | (have := (hW1).size; omega) | (have := (hW1).size; simp; omega)) _) | exact hW1))⟩
  · have hvn : ¬ v < 0 := by omega
    go_wp2
    go_ret
    exact ⟨⟨v, rfl, .inr ⟨hv0, hv1, hlen⟩⟩, (by repeat (first | with_reducible exact hW1 | with_reducible apply below_drewN' | with_reducible apply Below.drew | (with_reducible refine Below.alloc ?_ (by first | omega | (simp; omega) | simp | (have := (hW1).size; omega) | (have := (hW1).size; simp; omega)) _) | (with_reducible refine Below.setCell ?_ (by first | omega | (simp; omega) | simp | (have := (hW1).size; omega) | (have := (hW1).size; simp; omega)) _) | exact hW1))⟩
end Go.Proofs.Ytmdliicdlehibaa
