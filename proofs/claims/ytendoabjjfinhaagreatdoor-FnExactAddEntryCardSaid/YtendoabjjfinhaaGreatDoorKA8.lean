/- Charts: the laws' copies and comparisons of them. No condition beyond the lengths. Releases: the laws' copies and comparisons of them. No condition beyond the lengths. Releases as records: their cells behind a name. Conditions: the lengths. Entries as records: the laws' copies, comparison and size of one. Conditions: the lengths. -/
import Derived.Deep.WholeRow
import Derived.Test.YtendoabjjfinhaaGreatDoorKA4
import Derived.Test.YtendoabjjfinhaaGreatDoorKA7
set_option linter.unusedSimpArgs false
namespace Go.Proofs.YtendoabjjfinhaaGreatDoor
open Go.RowKit
set_option maxRecDepth 100000 in
theorem toChart_c (fd ft : Int) (nm : ByteArray) (A1 : Option Addr) (c1 : Nat) (l1 : List Int) (wd lf rt : Int) (w : World) (h1 : l1.length ≤ 1048576) (hs1 : Sl w w.heap.size 1 A1 (l1.map ic)) :
    Calls Tryz.prog 85 #[.agg #[.int .i64 fd, .int .i64 ft, .string nm, .slice A1 l1.length c1, .int .i64 wd, .int .i64 lf, .int .i64 rt]] w fun e w' => ∃ B1 d1, e = .returned (.agg #[.int .i64 fd, .int .i64 ft, .string nm, .slice B1 l1.length d1, .int .i64 wd, .int .i64 lf, .int .i64 rt]) ∧ Own w' w.heap.size 2 1 (.slice B1 l1.length d1) (l1.map ic) ∧ Below w.heap.size w w' := by
  go_enter Tryz.func85, Tryz.ntmps85
  go_wp2_with fail
  refine (toFormula_c fd ft nm A1 c1 l1 _ (by omega) ((hs1.below ((by repeat (first | with_reducible exact Below.refl _ _ | with_reducible apply below_drewN' | with_reducible apply Below.drew | (with_reducible refine Below.alloc ?_ (by first | omega | (simp; omega) | simp | (have := (Below.refl _ _).size; omega) | (have := (Below.refl _ _).size; simp; omega)) _) | (with_reducible refine Below.setCell ?_ (by first | omega | (simp; omega) | simp | (have := (Below.refl _ _).size; omega) | (have := (Below.refl _ _).size; simp; omega)) _) | exact Below.refl _ _)))).more (by first | omega | (simp; omega) | simp))).mono ?_; rintro e w1 ⟨B1, d1, rfl, hO_1, hb1⟩
  have B0_1 := (((Blk.new w 29 #[.int .i64 fd, .int .i64 ft, .string nm, .slice A1 l1.length c1, .int .i64 wd, .int .i64 lf, .int .i64 rt]).alloc (.cells #[.int .i64 0, .int .i64 0, .string ByteArray.empty, .slice none 0 0, .int .i64 0, .int .i64 0, .int .i64 0] 44)).alloc (.cells #[.int .i64 0, .int .i64 0, .string ByteArray.empty, .slice none 0 0, .int .i64 0, .int .i64 0, .int .i64 0] 44)).below hb1 (by first | omega | (simp; omega) | simp)
  have B1_1 := ((Blk.new' (w.alloc (.cells #[.int .i64 fd, .int .i64 ft, .string nm, .slice A1 l1.length c1, .int .i64 wd, .int .i64 lf, .int .i64 rt] 29)) 44 #[.int .i64 0, .int .i64 0, .string ByteArray.empty, .slice none 0 0, .int .i64 0, .int .i64 0, .int .i64 0] (g := w.heap.size + 1) (by simp)).alloc (.cells #[.int .i64 0, .int .i64 0, .string ByteArray.empty, .slice none 0 0, .int .i64 0, .int .i64 0, .int .i64 0] 44)).below hb1 (by first | omega | (simp; omega) | simp)
  have B2_1 : Blk w1 (w.heap.size + 1 + 1) 44 #[.int .i64 0, .int .i64 0, .string ByteArray.empty, .slice none 0 0, .int .i64 0, .int .i64 0, .int .i64 0] := (Blk.new' ((w.alloc (.cells #[.int .i64 fd, .int .i64 ft, .string nm, .slice A1 l1.length c1, .int .i64 wd, .int .i64 lf, .int .i64 rt] 29)).alloc (.cells #[.int .i64 0, .int .i64 0, .string ByteArray.empty, .slice none 0 0, .int .i64 0, .int .i64 0, .int .i64 0] 44)) 44 #[.int .i64 0, .int .i64 0, .string ByteArray.empty, .slice none 0 0, .int .i64 0, .int .i64 0, .int .i64 0] (g := w.heap.size + 1 + 1) (by simp)).below hb1 (by first | omega | (simp; omega) | simp)
  have hB1 : Below w.heap.size w w1 := Below.trans ((by repeat (first | with_reducible exact Below.refl _ _ | with_reducible apply below_drewN' | with_reducible apply Below.drew | (with_reducible refine Below.alloc ?_ (by first | omega | (simp; omega) | simp | (have := (Below.refl _ _).size; omega) | (have := (Below.refl _ _).size; simp; omega)) _) | (with_reducible refine Below.setCell ?_ (by first | omega | (simp; omega) | simp | (have := (Below.refl _ _).size; omega) | (have := (Below.refl _ _).size; simp; omega)) _) | exact Below.refl _ _))) (hb1.mono (by first | omega | (simp; omega) | simp))
  have hBs1 := hB1.size
  have hZ1 := B2_1.lt
  have lt_1 := fun r hr => (hO_1.1.lt r hr).2
  have ge_1 := hO_1.ownGe
  have hO_1 := own_mono (base' := w.heap.size + 1 + 1 + 1) hO_1 (by first | omega | (simp; omega) | simp)
  have x0_1 : w1.cell? ⟨w.heap.size, 0, none⟩ = some (.int .i64 fd) := B0_1.cell 0
  have y0_1 : w1.cell? ⟨w.heap.size + 1 + 1, 0, none⟩ = some (.int .i64 0) := B2_1.cell 0
  have yf0_1 : w1.frozen? ⟨w.heap.size + 1 + 1, 0, none⟩ = false := B2_1.frozen 0
  have z0_1 : w1.cell? ⟨w.heap.size + 1, 0, none⟩ = some (.int .i64 0) := B1_1.cell 0
  have zf0_1 : w1.frozen? ⟨w.heap.size + 1, 0, none⟩ = false := B1_1.frozen 0
  have x1_1 : w1.cell? ⟨w.heap.size, 1, none⟩ = some (.int .i64 ft) := B0_1.cell 1
  have y1_1 : w1.cell? ⟨w.heap.size + 1 + 1, 1, none⟩ = some (.int .i64 0) := B2_1.cell 1
  have yf1_1 : w1.frozen? ⟨w.heap.size + 1 + 1, 1, none⟩ = false := B2_1.frozen 1
  have z1_1 : w1.cell? ⟨w.heap.size + 1, 1, none⟩ = some (.int .i64 0) := B1_1.cell 1
  have zf1_1 : w1.frozen? ⟨w.heap.size + 1, 1, none⟩ = false := B1_1.frozen 1
  have x2_1 : w1.cell? ⟨w.heap.size, 2, none⟩ = some (.string nm) := B0_1.cell 2
  have y2_1 : w1.cell? ⟨w.heap.size + 1 + 1, 2, none⟩ = some (.string ByteArray.empty) := B2_1.cell 2
  have yf2_1 : w1.frozen? ⟨w.heap.size + 1 + 1, 2, none⟩ = false := B2_1.frozen 2
  have z2_1 : w1.cell? ⟨w.heap.size + 1, 2, none⟩ = some (.string ByteArray.empty) := B1_1.cell 2
  have zf2_1 : w1.frozen? ⟨w.heap.size + 1, 2, none⟩ = false := B1_1.frozen 2
  have x3_1 : w1.cell? ⟨w.heap.size, 3, none⟩ = some (.slice A1 l1.length c1) := B0_1.cell 3
  have y3_1 : w1.cell? ⟨w.heap.size + 1 + 1, 3, none⟩ = some (.slice none 0 0) := B2_1.cell 3
  have yf3_1 : w1.frozen? ⟨w.heap.size + 1 + 1, 3, none⟩ = false := B2_1.frozen 3
  have z3_1 : w1.cell? ⟨w.heap.size + 1, 3, none⟩ = some (.slice none 0 0) := B1_1.cell 3
  have zf3_1 : w1.frozen? ⟨w.heap.size + 1, 3, none⟩ = false := B1_1.frozen 3
  have x4_1 : w1.cell? ⟨w.heap.size, 4, none⟩ = some (.int .i64 wd) := B0_1.cell 4
  have y4_1 : w1.cell? ⟨w.heap.size + 1 + 1, 4, none⟩ = some (.int .i64 0) := B2_1.cell 4
  have yf4_1 : w1.frozen? ⟨w.heap.size + 1 + 1, 4, none⟩ = false := B2_1.frozen 4
  have z4_1 : w1.cell? ⟨w.heap.size + 1, 4, none⟩ = some (.int .i64 0) := B1_1.cell 4
  have zf4_1 : w1.frozen? ⟨w.heap.size + 1, 4, none⟩ = false := B1_1.frozen 4
  have x5_1 : w1.cell? ⟨w.heap.size, 5, none⟩ = some (.int .i64 lf) := B0_1.cell 5
  have y5_1 : w1.cell? ⟨w.heap.size + 1 + 1, 5, none⟩ = some (.int .i64 0) := B2_1.cell 5
  have yf5_1 : w1.frozen? ⟨w.heap.size + 1 + 1, 5, none⟩ = false := B2_1.frozen 5
  have z5_1 : w1.cell? ⟨w.heap.size + 1, 5, none⟩ = some (.int .i64 0) := B1_1.cell 5
  have zf5_1 : w1.frozen? ⟨w.heap.size + 1, 5, none⟩ = false := B1_1.frozen 5
  have x6_1 : w1.cell? ⟨w.heap.size, 6, none⟩ = some (.int .i64 rt) := B0_1.cell 6
  have y6_1 : w1.cell? ⟨w.heap.size + 1 + 1, 6, none⟩ = some (.int .i64 0) := B2_1.cell 6
  have yf6_1 : w1.frozen? ⟨w.heap.size + 1 + 1, 6, none⟩ = false := B2_1.frozen 6
  have z6_1 : w1.cell? ⟨w.heap.size + 1, 6, none⟩ = some (.int .i64 0) := B1_1.cell 6
  have zf6_1 : w1.frozen? ⟨w.heap.size + 1, 6, none⟩ = false := B1_1.frozen 6
  go_wp2_with fail
  refine bodyPost_ret (v := .agg #[.int .i64 fd, .int .i64 ft, .string nm, .slice B1 l1.length d1, .int .i64 wd, .int .i64 lf, .int .i64 rt]) (by simp [results, Tryz.results85, go_sem, z0_1, z1_1, z2_1, z3_1, z4_1, z5_1, z6_1]) rfl ⟨B1, d1, rfl, own_mono (base := w.heap.size + 1 + 1 + 1) (by repeat (first | with_reducible exact hO_1 | (with_reducible refine own_far ?_ (by first | omega | (simp; omega))))) (by first | omega | (simp; omega) | simp), (by repeat (first | with_reducible exact hB1 | with_reducible apply below_drewN' | with_reducible apply Below.drew | (with_reducible refine Below.alloc ?_ (by first | omega | (simp; omega) | simp | (have := (hB1).size; omega) | (have := (hB1).size; simp; omega)) _) | (with_reducible refine Below.setCell ?_ (by first | omega | (simp; omega) | simp | (have := (hB1).size; omega) | (have := (hB1).size; simp; omega)) _) | exact hB1))⟩

set_option maxRecDepth 100000 in
theorem eqChart_c (fd ft : Int) (nm : ByteArray) (A1 : Option Addr) (c1 : Nat) (A1' : Option Addr) (c1' : Nat) (l1 : List Int) (wd lf rt : Int) (w : World) (h1 : l1.length ≤ 1048576) (hs1 : Sl w w.heap.size 1 A1 (l1.map ic)) (hs2 : Sl w w.heap.size 1 A1' (l1.map ic)) :
    Calls Tryz.prog 92 #[.agg #[.int .i64 fd, .int .i64 ft, .string nm, .slice A1 l1.length c1, .int .i64 wd, .int .i64 lf, .int .i64 rt], .agg #[.int .i64 fd, .int .i64 ft, .string nm, .slice A1' l1.length c1', .int .i64 wd, .int .i64 lf, .int .i64 rt]] w fun e w' => e = .returned (.bool true) ∧ Below w.heap.size w w' := by
  go_enter Tryz.func92, Tryz.ntmps92
  go_wp2_with fail
  refine (eqFormula_c fd ft nm A1 c1 A1' c1' l1 _ (by omega) ((hs1.below ((by repeat (first | with_reducible exact Below.refl _ _ | with_reducible apply below_drewN' | with_reducible apply Below.drew | (with_reducible refine Below.alloc ?_ (by first | omega | (simp; omega) | simp | (have := (Below.refl _ _).size; omega) | (have := (Below.refl _ _).size; simp; omega)) _) | (with_reducible refine Below.setCell ?_ (by first | omega | (simp; omega) | simp | (have := (Below.refl _ _).size; omega) | (have := (Below.refl _ _).size; simp; omega)) _) | exact Below.refl _ _)))).more (by first | omega | (simp; omega) | simp)) ((hs2.below ((by repeat (first | with_reducible exact Below.refl _ _ | with_reducible apply below_drewN' | with_reducible apply Below.drew | (with_reducible refine Below.alloc ?_ (by first | omega | (simp; omega) | simp | (have := (Below.refl _ _).size; omega) | (have := (Below.refl _ _).size; simp; omega)) _) | (with_reducible refine Below.setCell ?_ (by first | omega | (simp; omega) | simp | (have := (Below.refl _ _).size; omega) | (have := (Below.refl _ _).size; simp; omega)) _) | exact Below.refl _ _)))).more (by first | omega | (simp; omega) | simp))).mono ?_; rintro e w1 ⟨rfl, hb1⟩
  have B0_1 := ((Blk.new w 44 #[.int .i64 fd, .int .i64 ft, .string nm, .slice A1 l1.length c1, .int .i64 wd, .int .i64 lf, .int .i64 rt]).alloc (.cells #[.int .i64 fd, .int .i64 ft, .string nm, .slice A1' l1.length c1', .int .i64 wd, .int .i64 lf, .int .i64 rt] 44)).below hb1 (by first | omega | (simp; omega) | simp)
  have B1_1 := (Blk.new' (w.alloc (.cells #[.int .i64 fd, .int .i64 ft, .string nm, .slice A1 l1.length c1, .int .i64 wd, .int .i64 lf, .int .i64 rt] 44)) 44 #[.int .i64 fd, .int .i64 ft, .string nm, .slice A1' l1.length c1', .int .i64 wd, .int .i64 lf, .int .i64 rt] (g := w.heap.size + 1) (by simp)).below hb1 (by first | omega | (simp; omega) | simp)
  have hB1 : Below w.heap.size w w1 := Below.trans ((by repeat (first | with_reducible exact Below.refl _ _ | with_reducible apply below_drewN' | with_reducible apply Below.drew | (with_reducible refine Below.alloc ?_ (by first | omega | (simp; omega) | simp | (have := (Below.refl _ _).size; omega) | (have := (Below.refl _ _).size; simp; omega)) _) | (with_reducible refine Below.setCell ?_ (by first | omega | (simp; omega) | simp | (have := (Below.refl _ _).size; omega) | (have := (Below.refl _ _).size; simp; omega)) _) | exact Below.refl _ _))) (hb1.mono (by first | omega | (simp; omega) | simp))
  have hBs1 := hB1.size
  have hZ1 := B1_1.lt
  have x0_1 : w1.cell? ⟨w.heap.size, 0, none⟩ = some (.int .i64 fd) := B0_1.cell 0
  have y0_1 : w1.cell? ⟨w.heap.size + 1, 0, none⟩ = some (.int .i64 fd) := B1_1.cell 0
  have x1_1 : w1.cell? ⟨w.heap.size, 1, none⟩ = some (.int .i64 ft) := B0_1.cell 1
  have y1_1 : w1.cell? ⟨w.heap.size + 1, 1, none⟩ = some (.int .i64 ft) := B1_1.cell 1
  have x2_1 : w1.cell? ⟨w.heap.size, 2, none⟩ = some (.string nm) := B0_1.cell 2
  have y2_1 : w1.cell? ⟨w.heap.size + 1, 2, none⟩ = some (.string nm) := B1_1.cell 2
  have x3_1 : w1.cell? ⟨w.heap.size, 3, none⟩ = some (.slice A1 l1.length c1) := B0_1.cell 3
  have y3_1 : w1.cell? ⟨w.heap.size + 1, 3, none⟩ = some (.slice A1' l1.length c1') := B1_1.cell 3
  have x4_1 : w1.cell? ⟨w.heap.size, 4, none⟩ = some (.int .i64 wd) := B0_1.cell 4
  have y4_1 : w1.cell? ⟨w.heap.size + 1, 4, none⟩ = some (.int .i64 wd) := B1_1.cell 4
  have x5_1 : w1.cell? ⟨w.heap.size, 5, none⟩ = some (.int .i64 lf) := B0_1.cell 5
  have y5_1 : w1.cell? ⟨w.heap.size + 1, 5, none⟩ = some (.int .i64 lf) := B1_1.cell 5
  have x6_1 : w1.cell? ⟨w.heap.size, 6, none⟩ = some (.int .i64 rt) := B0_1.cell 6
  have y6_1 : w1.cell? ⟨w.heap.size + 1, 6, none⟩ = some (.int .i64 rt) := B1_1.cell 6
  go_wp2_with fail
  go_ret
  exact ⟨rfl, (by repeat (first | with_reducible exact hB1 | with_reducible apply below_drewN' | with_reducible apply Below.drew | (with_reducible refine Below.alloc ?_ (by first | omega | (simp; omega) | simp | (have := (hB1).size; omega) | (have := (hB1).size; simp; omega)) _) | (with_reducible refine Below.setCell ?_ (by first | omega | (simp; omega) | simp | (have := (hB1).size; omega) | (have := (hB1).size; simp; omega)) _) | exact hB1))⟩
set_option maxRecDepth 100000 in
theorem szChart_c (fd ft : Int) (nm : ByteArray) (A1 : Option Addr) (n1 c1 : Nat) (wd lf rt : Int) (left : Int) (w : World) (hn : n1 ≤ 140737488351232) (hm : nm.size ≤ maxLen) (hl : 0 ≤ left ∧ left ≤ 1048576) :
    Calls Tryz.prog 81 #[.agg #[.int .i64 fd, .int .i64 ft, .string nm, .slice A1 n1 c1, .int .i64 wd, .int .i64 lf, .int .i64 rt], .int .i64 left] w (SzP left (nm.size ≤ 1048576 ∧ n1 ≤ 1048576) w) := by
  have H := Lib.hid (fun W => szFormula_c fd ft nm A1 n1 c1 left W hn hm hl)
  have hW : Below w.heap.size w (w.alloc (.cells #[.int .i64 fd, .int .i64 ft, .string nm, .slice A1 n1 c1, .int .i64 wd, .int .i64 lf, .int .i64 rt] 29)) := (by repeat (first | with_reducible exact Below.refl _ _ | with_reducible apply below_drewN' | with_reducible apply Below.drew | (with_reducible refine Below.alloc ?_ (by first | omega | (simp; omega) | simp | (have := (Below.refl _ _).size; omega) | (have := (Below.refl _ _).size; simp; omega)) _) | (with_reducible refine Below.setCell ?_ (by first | omega | (simp; omega) | simp | (have := (Below.refl _ _).size; omega) | (have := (Below.refl _ _).size; simp; omega)) _) | exact Below.refl _ _))
  go_enter Tryz.func81, Tryz.ntmps81
  go_wp2_with fail
  refine Calls.mono (H.out _) ?_; rintro e w1 ⟨⟨v, rfl, hv⟩, hb1⟩
  have hW1 := hW.trans (hb1.mono hW.size)
  rcases hv with hv | ⟨hv0, hv1, hlen⟩
  · go_wp2
    go_ret
    exact ⟨⟨-1, rfl, .inl (by omega)⟩, (by repeat (first | with_reducible exact hW1 | with_reducible apply below_drewN' | with_reducible apply Below.drew | (with_reducible refine Below.alloc ?_ (by first | omega | (simp; omega) | simp | (have := (hW1).size; omega) | (have := (hW1).size; simp; omega)) _) | (with_reducible refine Below.setCell ?_ (by first | omega | (simp; omega) | simp | (have := (hW1).size; omega) | (have := (hW1).size; simp; omega)) _) | exact hW1))⟩
  · have hvn : ¬ v < 0 := by omega
    go_wp2
    go_ret
    exact ⟨⟨v, rfl, .inr ⟨hv0, hv1, hlen⟩⟩, (by repeat (first | with_reducible exact hW1 | with_reducible apply below_drewN' | with_reducible apply Below.drew | (with_reducible refine Below.alloc ?_ (by first | omega | (simp; omega) | simp | (have := (hW1).size; omega) | (have := (hW1).size; simp; omega)) _) | (with_reducible refine Below.setCell ?_ (by first | omega | (simp; omega) | simp | (have := (hW1).size; omega) | (have := (hW1).size; simp; omega)) _) | exact hW1))⟩
end Go.Proofs.YtendoabjjfinhaaGreatDoor
namespace Go.Proofs.YtendoabjjfinhaaGreatDoor
open Go.RowKit
def fillL : List Value → Nat → List Value → List Value
  | L, _, [] => L
  | L, p, v :: vs => fillL (L.set p v) (p + 1) vs
theorem Blk.setL {g : Nat} {t : TypeId} : ∀ (vs : List Value) (p : Nat) {w : World} {L : List Value}, Blk w g t L.toArray → Blk (stores w g p vs) g t (fillL L p vs).toArray
  | [], _, _, _, h => h
  | v :: vs, p, _, L, h => Blk.setL vs (p + 1) (L := L.set p v) (by have := h.set_ p v; rwa [List.setIfInBounds_toArray] at this)
theorem setL_all : ∀ (vs S P : List Value), S.length = vs.length → fillL (P ++ S) P.length vs = P ++ vs
  | [], S, P, h => by
    obtain rfl : S = [] := List.eq_nil_of_length_eq_zero h
    rfl
  | v :: vs, [], P, h => by simp at h
  | v :: vs, s :: S, P, h => by
    have ih := setL_all vs S (P ++ [v]) (by simpa using h)
    unfold fillL
    rw [List.set_append_right _ _ (Nat.le_refl _), Nat.sub_self, List.set_cons_zero]
    simpa using ih
/-- all cells of a block written -/
theorem Blk.fill {w : World} {g : Nat} {t : TypeId} {L : List Value} (h : Blk w g t L.toArray) (vs : List Value) (hl : L.length = vs.length) : Blk (stores w g 0 vs) g t vs.toArray := by
  have h1 := Blk.setL vs 0 h
  have h2 : fillL L 0 vs = vs := by simpa using setL_all vs L [] hl
  rwa [h2] at h1
theorem res_cells {P : Program} {fn : Func} {tm : Array Value} {k : Nat} {t : TypeId} {g : Nat} {w : World} {vs : List Value} {t' : TypeId} (hr : fn.results = #[.cell k t])
    (ht : tm.getD k undef = .pointer (some ⟨g, 0, none⟩)) (hA : (isAgg t).run P w = .ok true w) (hS : (sizeOf t).run P w = .ok vs.length w) (hB : Blk w g t' vs.toArray) :
    (results fn tm).run P w = .ok (.agg vs.toArray) w := by
  have hl := run_loadCells_list (P := P) w ⟨g, 0, none⟩ vs (fun j v hv => by
    have := hB.cell j
    rw [show (⟨g, 0, none⟩ : Addr).add j = ⟨g, j, none⟩ by cases j <;> simp [Addr.add], this]
    simpa using hv)
  unfold loadCells at hl
  rw [Array.getD_eq_getD_getElem?] at ht
  unfold results
  rw [hr]
  simp [asAddr, loadVar, ht, hA, hS, hl, go_sem, List.mapM_cons]
theorem aggRel (W : World) : (isAgg 46).run Tryz.prog W = .ok true W := by simp [isAgg, go_sem]
theorem szRel (W : World) : (sizeOf 46).run Tryz.prog W = .ok 17 W := by simp [go_sem]
theorem bodyPost_world {P : Program} {f : Func} {Q : Ending → World → Prop} {e : Exit} {a : Act} {W : World} (h : ∀ wf, wf = W → bodyPost P f Q e a wf) : bodyPost P f Q e a W := h W rfl
set_option maxRecDepth 100000 in
set_option maxHeartbeats 4000000 in
theorem toRelease_c (fd ft : Int) (nm : ByteArray) (A1 : Option Addr) (c1 : Nat) (l1 : List Int) (wd lf rt : Int) (lud lut hud hut lvd lvt hvd hvt ey bo : Int) (w : World) (h1 : l1.length ≤ 1048576) (hs1 : Sl w w.heap.size 1 A1 (l1.map ic)) :
    Calls Tryz.prog 49 #[.agg #[.int .i64 fd, .int .i64 ft, .string nm, .slice A1 l1.length c1, .int .i64 wd, .int .i64 lf, .int .i64 rt, .int .i64 lud, .int .i64 lut, .int .i64 hud, .int .i64 hut, .int .i64 lvd, .int .i64 lvt, .int .i64 hvd, .int .i64 hvt, .int .i64 ey, .int .i64 bo]] w fun e w' => ∃ B1 d1, e = .returned (.agg #[.int .i64 fd, .int .i64 ft, .string nm, .slice B1 l1.length d1, .int .i64 wd, .int .i64 lf, .int .i64 rt, .int .i64 lud, .int .i64 lut, .int .i64 hud, .int .i64 hut, .int .i64 lvd, .int .i64 lvt, .int .i64 hvd, .int .i64 hvt, .int .i64 ey, .int .i64 bo]) ∧ Own w' w.heap.size 2 1 (.slice B1 l1.length d1) (l1.map ic) ∧ Below w.heap.size w w' := by
  go_enter Tryz.func49, Tryz.ntmps49
  go_wp2_with fail
  refine (toChart_c fd ft nm A1 c1 l1 wd lf rt _ (by omega) ((hs1.below ((by repeat (first | with_reducible exact Below.refl _ _ | with_reducible apply below_drewN' | with_reducible apply Below.drew | (with_reducible refine Below.alloc ?_ (by first | omega | (simp; omega) | simp | (have := (Below.refl _ _).size; omega) | (have := (Below.refl _ _).size; simp; omega)) _) | (with_reducible refine Below.setCell ?_ (by first | omega | (simp; omega) | simp | (have := (Below.refl _ _).size; omega) | (have := (Below.refl _ _).size; simp; omega)) _) | exact Below.refl _ _)))).more (by first | omega | (simp; omega) | simp))).mono ?_; rintro e w1 ⟨B1, d1, rfl, hO_1, hb1⟩
  have B0_1 := (((Blk.new w 31 #[.int .i64 fd, .int .i64 ft, .string nm, .slice A1 l1.length c1, .int .i64 wd, .int .i64 lf, .int .i64 rt, .int .i64 lud, .int .i64 lut, .int .i64 hud, .int .i64 hut, .int .i64 lvd, .int .i64 lvt, .int .i64 hvd, .int .i64 hvt, .int .i64 ey, .int .i64 bo]).alloc (.cells #[.int .i64 0, .int .i64 0, .string ByteArray.empty, .slice none 0 0, .int .i64 0, .int .i64 0, .int .i64 0, .int .i64 0, .int .i64 0, .int .i64 0, .int .i64 0, .int .i64 0, .int .i64 0, .int .i64 0, .int .i64 0, .int .i64 0, .int .i64 0] 46)).alloc (.cells #[.int .i64 0, .int .i64 0, .string ByteArray.empty, .slice none 0 0, .int .i64 0, .int .i64 0, .int .i64 0, .int .i64 0, .int .i64 0, .int .i64 0, .int .i64 0, .int .i64 0, .int .i64 0, .int .i64 0, .int .i64 0, .int .i64 0, .int .i64 0] 46)).below hb1 (by first | omega | (simp; omega) | simp)
  have B1_1 := ((Blk.new' (w.alloc (.cells #[.int .i64 fd, .int .i64 ft, .string nm, .slice A1 l1.length c1, .int .i64 wd, .int .i64 lf, .int .i64 rt, .int .i64 lud, .int .i64 lut, .int .i64 hud, .int .i64 hut, .int .i64 lvd, .int .i64 lvt, .int .i64 hvd, .int .i64 hvt, .int .i64 ey, .int .i64 bo] 31)) 46 #[.int .i64 0, .int .i64 0, .string ByteArray.empty, .slice none 0 0, .int .i64 0, .int .i64 0, .int .i64 0, .int .i64 0, .int .i64 0, .int .i64 0, .int .i64 0, .int .i64 0, .int .i64 0, .int .i64 0, .int .i64 0, .int .i64 0, .int .i64 0] (g := w.heap.size + 1) (by simp)).alloc (.cells #[.int .i64 0, .int .i64 0, .string ByteArray.empty, .slice none 0 0, .int .i64 0, .int .i64 0, .int .i64 0, .int .i64 0, .int .i64 0, .int .i64 0, .int .i64 0, .int .i64 0, .int .i64 0, .int .i64 0, .int .i64 0, .int .i64 0, .int .i64 0] 46)).below hb1 (by first | omega | (simp; omega) | simp)
  have B2_1 : Blk w1 (w.heap.size + 1 + 1) 46 #[.int .i64 0, .int .i64 0, .string ByteArray.empty, .slice none 0 0, .int .i64 0, .int .i64 0, .int .i64 0, .int .i64 0, .int .i64 0, .int .i64 0, .int .i64 0, .int .i64 0, .int .i64 0, .int .i64 0, .int .i64 0, .int .i64 0, .int .i64 0] := (Blk.new' ((w.alloc (.cells #[.int .i64 fd, .int .i64 ft, .string nm, .slice A1 l1.length c1, .int .i64 wd, .int .i64 lf, .int .i64 rt, .int .i64 lud, .int .i64 lut, .int .i64 hud, .int .i64 hut, .int .i64 lvd, .int .i64 lvt, .int .i64 hvd, .int .i64 hvt, .int .i64 ey, .int .i64 bo] 31)).alloc (.cells #[.int .i64 0, .int .i64 0, .string ByteArray.empty, .slice none 0 0, .int .i64 0, .int .i64 0, .int .i64 0, .int .i64 0, .int .i64 0, .int .i64 0, .int .i64 0, .int .i64 0, .int .i64 0, .int .i64 0, .int .i64 0, .int .i64 0, .int .i64 0] 46)) 46 #[.int .i64 0, .int .i64 0, .string ByteArray.empty, .slice none 0 0, .int .i64 0, .int .i64 0, .int .i64 0, .int .i64 0, .int .i64 0, .int .i64 0, .int .i64 0, .int .i64 0, .int .i64 0, .int .i64 0, .int .i64 0, .int .i64 0, .int .i64 0] (g := w.heap.size + 1 + 1) (by simp)).below hb1 (by first | omega | (simp; omega) | simp)
  have hB1 : Below w.heap.size w w1 := Below.trans ((by repeat (first | with_reducible exact Below.refl _ _ | with_reducible apply below_drewN' | with_reducible apply Below.drew | (with_reducible refine Below.alloc ?_ (by first | omega | (simp; omega) | simp | (have := (Below.refl _ _).size; omega) | (have := (Below.refl _ _).size; simp; omega)) _) | (with_reducible refine Below.setCell ?_ (by first | omega | (simp; omega) | simp | (have := (Below.refl _ _).size; omega) | (have := (Below.refl _ _).size; simp; omega)) _) | exact Below.refl _ _))) (hb1.mono (by first | omega | (simp; omega) | simp))
  have hBs1 := hB1.size
  have hZ1 := B2_1.lt
  have lt_1 := fun r hr => (hO_1.1.lt r hr).2
  have ge_1 := hO_1.ownGe
  have hO_1 := own_mono (base' := w.heap.size + 1 + 1 + 1) hO_1 (by first | omega | (simp; omega) | simp)
  have y0_1 : w1.cell? ⟨w.heap.size + 1 + 1, 0, none⟩ = some (.int .i64 0) := B2_1.cell 0
  have yf0_1 : w1.frozen? ⟨w.heap.size + 1 + 1, 0, none⟩ = false := B2_1.frozen 0
  have y1_1 : w1.cell? ⟨w.heap.size + 1 + 1, 1, none⟩ = some (.int .i64 0) := B2_1.cell 1
  have yf1_1 : w1.frozen? ⟨w.heap.size + 1 + 1, 1, none⟩ = false := B2_1.frozen 1
  have y2_1 : w1.cell? ⟨w.heap.size + 1 + 1, 2, none⟩ = some (.string ByteArray.empty) := B2_1.cell 2
  have yf2_1 : w1.frozen? ⟨w.heap.size + 1 + 1, 2, none⟩ = false := B2_1.frozen 2
  have y3_1 : w1.cell? ⟨w.heap.size + 1 + 1, 3, none⟩ = some (.slice none 0 0) := B2_1.cell 3
  have yf3_1 : w1.frozen? ⟨w.heap.size + 1 + 1, 3, none⟩ = false := B2_1.frozen 3
  have y4_1 : w1.cell? ⟨w.heap.size + 1 + 1, 4, none⟩ = some (.int .i64 0) := B2_1.cell 4
  have yf4_1 : w1.frozen? ⟨w.heap.size + 1 + 1, 4, none⟩ = false := B2_1.frozen 4
  have y5_1 : w1.cell? ⟨w.heap.size + 1 + 1, 5, none⟩ = some (.int .i64 0) := B2_1.cell 5
  have yf5_1 : w1.frozen? ⟨w.heap.size + 1 + 1, 5, none⟩ = false := B2_1.frozen 5
  have y6_1 : w1.cell? ⟨w.heap.size + 1 + 1, 6, none⟩ = some (.int .i64 0) := B2_1.cell 6
  have yf6_1 : w1.frozen? ⟨w.heap.size + 1 + 1, 6, none⟩ = false := B2_1.frozen 6
  have x7_1 : w1.cell? ⟨w.heap.size, 7, none⟩ = some (.int .i64 lud) := B0_1.cell 7
  have x8_1 : w1.cell? ⟨w.heap.size, 8, none⟩ = some (.int .i64 lut) := B0_1.cell 8
  go_wp2_with fail
  refine (toFigure_c lud lut _).mono ?_; rintro e w2 ⟨rfl, hb2⟩
  have B0_2 := (((((((B0_1.far (p := ⟨w.heap.size + 1 + 1, 0, none⟩) (by first | omega | (simp; omega) | simp) (.int .i64 fd)).far (p := ⟨w.heap.size + 1 + 1, 1, none⟩) (by first | omega | (simp; omega) | simp) (.int .i64 ft)).far (p := ⟨w.heap.size + 1 + 1, 2, none⟩) (by first | omega | (simp; omega) | simp) (.string nm)).far (p := ⟨w.heap.size + 1 + 1, 3, none⟩) (by first | omega | (simp; omega) | simp) (.slice B1 l1.length d1)).far (p := ⟨w.heap.size + 1 + 1, 4, none⟩) (by first | omega | (simp; omega) | simp) (.int .i64 wd)).far (p := ⟨w.heap.size + 1 + 1, 5, none⟩) (by first | omega | (simp; omega) | simp) (.int .i64 lf)).far (p := ⟨w.heap.size + 1 + 1, 6, none⟩) (by first | omega | (simp; omega) | simp) (.int .i64 rt)).below hb2 (by first | omega | (simp; omega) | simp)
  have B1_2 := (((((((B1_1.far (p := ⟨w.heap.size + 1 + 1, 0, none⟩) (by first | omega | (simp; omega) | simp) (.int .i64 fd)).far (p := ⟨w.heap.size + 1 + 1, 1, none⟩) (by first | omega | (simp; omega) | simp) (.int .i64 ft)).far (p := ⟨w.heap.size + 1 + 1, 2, none⟩) (by first | omega | (simp; omega) | simp) (.string nm)).far (p := ⟨w.heap.size + 1 + 1, 3, none⟩) (by first | omega | (simp; omega) | simp) (.slice B1 l1.length d1)).far (p := ⟨w.heap.size + 1 + 1, 4, none⟩) (by first | omega | (simp; omega) | simp) (.int .i64 wd)).far (p := ⟨w.heap.size + 1 + 1, 5, none⟩) (by first | omega | (simp; omega) | simp) (.int .i64 lf)).far (p := ⟨w.heap.size + 1 + 1, 6, none⟩) (by first | omega | (simp; omega) | simp) (.int .i64 rt)).below hb2 (by first | omega | (simp; omega) | simp)
  have B2_2 : Blk w2 (w.heap.size + 1 + 1) 46 #[.int .i64 fd, .int .i64 ft, .string nm, .slice B1 l1.length d1, .int .i64 wd, .int .i64 lf, .int .i64 rt, .int .i64 0, .int .i64 0, .int .i64 0, .int .i64 0, .int .i64 0, .int .i64 0, .int .i64 0, .int .i64 0, .int .i64 0, .int .i64 0] := (((((((B2_1.set_ 0 (.int .i64 fd)).set_ 1 (.int .i64 ft)).set_ 2 (.string nm)).set_ 3 (.slice B1 l1.length d1)).set_ 4 (.int .i64 wd)).set_ 5 (.int .i64 lf)).set_ 6 (.int .i64 rt)).below hb2 (by first | omega | (simp; omega) | simp)
  have hB2 : Below w.heap.size w w2 := Below.trans ((by repeat (first | with_reducible exact hB1 | with_reducible apply below_drewN' | with_reducible apply Below.drew | (with_reducible refine Below.alloc ?_ (by first | omega | (simp; omega) | simp | (have := (hB1).size; omega) | (have := (hB1).size; simp; omega)) _) | (with_reducible refine Below.setCell ?_ (by first | omega | (simp; omega) | simp | (have := (hB1).size; omega) | (have := (hB1).size; simp; omega)) _) | exact hB1))) (hb2.mono (by first | omega | (simp; omega) | simp))
  have hBs2 := hB2.size
  have hZ2 := B2_2.lt
  clear x7_1 x8_1 y0_1 yf0_1 y1_1 yf1_1 y2_1 yf2_1 y3_1 yf3_1 y4_1 yf4_1 y5_1 yf5_1 y6_1 yf6_1 B0_1 B1_1 B2_1
  have hO_1 := (own_far (own_far (own_far (own_far (own_far (own_far (own_far hO_1 (b := w.heap.size + 1 + 1) (off := 0) (u := .int .i64 fd) (by first | omega | (simp; omega) | simp)) (b := w.heap.size + 1 + 1) (off := 1) (u := .int .i64 ft) (by first | omega | (simp; omega) | simp)) (b := w.heap.size + 1 + 1) (off := 2) (u := .string nm) (by first | omega | (simp; omega) | simp)) (b := w.heap.size + 1 + 1) (off := 3) (u := .slice B1 l1.length d1) (by first | omega | (simp; omega) | simp)) (b := w.heap.size + 1 + 1) (off := 4) (u := .int .i64 wd) (by first | omega | (simp; omega) | simp)) (b := w.heap.size + 1 + 1) (off := 5) (u := .int .i64 lf) (by first | omega | (simp; omega) | simp)) (b := w.heap.size + 1 + 1) (off := 6) (u := .int .i64 rt) (by first | omega | (simp; omega) | simp)).below hb2
  have y7_2 : w2.cell? ⟨w.heap.size + 1 + 1, 7, none⟩ = some (.int .i64 0) := B2_2.cell 7
  have yf7_2 : w2.frozen? ⟨w.heap.size + 1 + 1, 7, none⟩ = false := B2_2.frozen 7
  have y8_2 : w2.cell? ⟨w.heap.size + 1 + 1, 8, none⟩ = some (.int .i64 0) := B2_2.cell 8
  have yf8_2 : w2.frozen? ⟨w.heap.size + 1 + 1, 8, none⟩ = false := B2_2.frozen 8
  have x9_2 : w2.cell? ⟨w.heap.size, 9, none⟩ = some (.int .i64 hud) := B0_2.cell 9
  have x10_2 : w2.cell? ⟨w.heap.size, 10, none⟩ = some (.int .i64 hut) := B0_2.cell 10
  go_wp2_with fail
  refine (toFigure_c hud hut _).mono ?_; rintro e w3 ⟨rfl, hb3⟩
  have B0_3 := ((B0_2.far (p := ⟨w.heap.size + 1 + 1, 7, none⟩) (by first | omega | (simp; omega) | simp) (.int .i64 lud)).far (p := ⟨w.heap.size + 1 + 1, 8, none⟩) (by first | omega | (simp; omega) | simp) (.int .i64 lut)).below hb3 (by first | omega | (simp; omega) | simp)
  have B1_3 := ((B1_2.far (p := ⟨w.heap.size + 1 + 1, 7, none⟩) (by first | omega | (simp; omega) | simp) (.int .i64 lud)).far (p := ⟨w.heap.size + 1 + 1, 8, none⟩) (by first | omega | (simp; omega) | simp) (.int .i64 lut)).below hb3 (by first | omega | (simp; omega) | simp)
  have B2_3 : Blk w3 (w.heap.size + 1 + 1) 46 #[.int .i64 fd, .int .i64 ft, .string nm, .slice B1 l1.length d1, .int .i64 wd, .int .i64 lf, .int .i64 rt, .int .i64 lud, .int .i64 lut, .int .i64 0, .int .i64 0, .int .i64 0, .int .i64 0, .int .i64 0, .int .i64 0, .int .i64 0, .int .i64 0] := ((B2_2.set_ 7 (.int .i64 lud)).set_ 8 (.int .i64 lut)).below hb3 (by first | omega | (simp; omega) | simp)
  have hB3 : Below w.heap.size w w3 := Below.trans ((by repeat (first | with_reducible exact hB2 | with_reducible apply below_drewN' | with_reducible apply Below.drew | (with_reducible refine Below.alloc ?_ (by first | omega | (simp; omega) | simp | (have := (hB2).size; omega) | (have := (hB2).size; simp; omega)) _) | (with_reducible refine Below.setCell ?_ (by first | omega | (simp; omega) | simp | (have := (hB2).size; omega) | (have := (hB2).size; simp; omega)) _) | exact hB2))) (hb3.mono (by first | omega | (simp; omega) | simp))
  have hBs3 := hB3.size
  have hZ3 := B2_3.lt
  clear x9_2 x10_2 y7_2 yf7_2 y8_2 yf8_2 B0_2 B1_2 B2_2
  have hO_1 := (own_far (own_far hO_1 (b := w.heap.size + 1 + 1) (off := 7) (u := .int .i64 lud) (by first | omega | (simp; omega) | simp)) (b := w.heap.size + 1 + 1) (off := 8) (u := .int .i64 lut) (by first | omega | (simp; omega) | simp)).below hb3
  have y9_3 : w3.cell? ⟨w.heap.size + 1 + 1, 9, none⟩ = some (.int .i64 0) := B2_3.cell 9
  have yf9_3 : w3.frozen? ⟨w.heap.size + 1 + 1, 9, none⟩ = false := B2_3.frozen 9
  have y10_3 : w3.cell? ⟨w.heap.size + 1 + 1, 10, none⟩ = some (.int .i64 0) := B2_3.cell 10
  have yf10_3 : w3.frozen? ⟨w.heap.size + 1 + 1, 10, none⟩ = false := B2_3.frozen 10
  have x11_3 : w3.cell? ⟨w.heap.size, 11, none⟩ = some (.int .i64 lvd) := B0_3.cell 11
  have x12_3 : w3.cell? ⟨w.heap.size, 12, none⟩ = some (.int .i64 lvt) := B0_3.cell 12
  go_wp2_with fail
  refine (toFigure_c lvd lvt _).mono ?_; rintro e w4 ⟨rfl, hb4⟩
  have B0_4 := ((B0_3.far (p := ⟨w.heap.size + 1 + 1, 9, none⟩) (by first | omega | (simp; omega) | simp) (.int .i64 hud)).far (p := ⟨w.heap.size + 1 + 1, 10, none⟩) (by first | omega | (simp; omega) | simp) (.int .i64 hut)).below hb4 (by first | omega | (simp; omega) | simp)
  have B1_4 := ((B1_3.far (p := ⟨w.heap.size + 1 + 1, 9, none⟩) (by first | omega | (simp; omega) | simp) (.int .i64 hud)).far (p := ⟨w.heap.size + 1 + 1, 10, none⟩) (by first | omega | (simp; omega) | simp) (.int .i64 hut)).below hb4 (by first | omega | (simp; omega) | simp)
  have B2_4 : Blk w4 (w.heap.size + 1 + 1) 46 #[.int .i64 fd, .int .i64 ft, .string nm, .slice B1 l1.length d1, .int .i64 wd, .int .i64 lf, .int .i64 rt, .int .i64 lud, .int .i64 lut, .int .i64 hud, .int .i64 hut, .int .i64 0, .int .i64 0, .int .i64 0, .int .i64 0, .int .i64 0, .int .i64 0] := ((B2_3.set_ 9 (.int .i64 hud)).set_ 10 (.int .i64 hut)).below hb4 (by first | omega | (simp; omega) | simp)
  have hB4 : Below w.heap.size w w4 := Below.trans ((by repeat (first | with_reducible exact hB3 | with_reducible apply below_drewN' | with_reducible apply Below.drew | (with_reducible refine Below.alloc ?_ (by first | omega | (simp; omega) | simp | (have := (hB3).size; omega) | (have := (hB3).size; simp; omega)) _) | (with_reducible refine Below.setCell ?_ (by first | omega | (simp; omega) | simp | (have := (hB3).size; omega) | (have := (hB3).size; simp; omega)) _) | exact hB3))) (hb4.mono (by first | omega | (simp; omega) | simp))
  have hBs4 := hB4.size
  have hZ4 := B2_4.lt
  clear x11_3 x12_3 y9_3 yf9_3 y10_3 yf10_3 B0_3 B1_3 B2_3
  have hO_1 := (own_far (own_far hO_1 (b := w.heap.size + 1 + 1) (off := 9) (u := .int .i64 hud) (by first | omega | (simp; omega) | simp)) (b := w.heap.size + 1 + 1) (off := 10) (u := .int .i64 hut) (by first | omega | (simp; omega) | simp)).below hb4
  have y11_4 : w4.cell? ⟨w.heap.size + 1 + 1, 11, none⟩ = some (.int .i64 0) := B2_4.cell 11
  have yf11_4 : w4.frozen? ⟨w.heap.size + 1 + 1, 11, none⟩ = false := B2_4.frozen 11
  have y12_4 : w4.cell? ⟨w.heap.size + 1 + 1, 12, none⟩ = some (.int .i64 0) := B2_4.cell 12
  have yf12_4 : w4.frozen? ⟨w.heap.size + 1 + 1, 12, none⟩ = false := B2_4.frozen 12
  have x13_4 : w4.cell? ⟨w.heap.size, 13, none⟩ = some (.int .i64 hvd) := B0_4.cell 13
  have x14_4 : w4.cell? ⟨w.heap.size, 14, none⟩ = some (.int .i64 hvt) := B0_4.cell 14
  go_wp2_with fail
  refine (toFigure_c hvd hvt _).mono ?_; rintro e w5 ⟨rfl, hb5⟩
  have B0_5 := ((B0_4.far (p := ⟨w.heap.size + 1 + 1, 11, none⟩) (by first | omega | (simp; omega) | simp) (.int .i64 lvd)).far (p := ⟨w.heap.size + 1 + 1, 12, none⟩) (by first | omega | (simp; omega) | simp) (.int .i64 lvt)).below hb5 (by first | omega | (simp; omega) | simp)
  have B1_5 := ((B1_4.far (p := ⟨w.heap.size + 1 + 1, 11, none⟩) (by first | omega | (simp; omega) | simp) (.int .i64 lvd)).far (p := ⟨w.heap.size + 1 + 1, 12, none⟩) (by first | omega | (simp; omega) | simp) (.int .i64 lvt)).below hb5 (by first | omega | (simp; omega) | simp)
  have B2_5 : Blk w5 (w.heap.size + 1 + 1) 46 #[.int .i64 fd, .int .i64 ft, .string nm, .slice B1 l1.length d1, .int .i64 wd, .int .i64 lf, .int .i64 rt, .int .i64 lud, .int .i64 lut, .int .i64 hud, .int .i64 hut, .int .i64 lvd, .int .i64 lvt, .int .i64 0, .int .i64 0, .int .i64 0, .int .i64 0] := ((B2_4.set_ 11 (.int .i64 lvd)).set_ 12 (.int .i64 lvt)).below hb5 (by first | omega | (simp; omega) | simp)
  have hB5 : Below w.heap.size w w5 := Below.trans ((by repeat (first | with_reducible exact hB4 | with_reducible apply below_drewN' | with_reducible apply Below.drew | (with_reducible refine Below.alloc ?_ (by first | omega | (simp; omega) | simp | (have := (hB4).size; omega) | (have := (hB4).size; simp; omega)) _) | (with_reducible refine Below.setCell ?_ (by first | omega | (simp; omega) | simp | (have := (hB4).size; omega) | (have := (hB4).size; simp; omega)) _) | exact hB4))) (hb5.mono (by first | omega | (simp; omega) | simp))
  have hBs5 := hB5.size
  have hZ5 := B2_5.lt
  clear x13_4 x14_4 y11_4 yf11_4 y12_4 yf12_4 B0_4 B1_4 B2_4
  have hO_1 := (own_far (own_far hO_1 (b := w.heap.size + 1 + 1) (off := 11) (u := .int .i64 lvd) (by first | omega | (simp; omega) | simp)) (b := w.heap.size + 1 + 1) (off := 12) (u := .int .i64 lvt) (by first | omega | (simp; omega) | simp)).below hb5
  have y0_5 : w5.cell? ⟨w.heap.size + 1 + 1, 0, none⟩ = some (.int .i64 fd) := B2_5.cell 0
  have yf0_5 : w5.frozen? ⟨w.heap.size + 1 + 1, 0, none⟩ = false := B2_5.frozen 0
  have z0_5 : w5.cell? ⟨w.heap.size + 1, 0, none⟩ = some (.int .i64 0) := B1_5.cell 0
  have zf0_5 : w5.frozen? ⟨w.heap.size + 1, 0, none⟩ = false := B1_5.frozen 0
  have y1_5 : w5.cell? ⟨w.heap.size + 1 + 1, 1, none⟩ = some (.int .i64 ft) := B2_5.cell 1
  have yf1_5 : w5.frozen? ⟨w.heap.size + 1 + 1, 1, none⟩ = false := B2_5.frozen 1
  have z1_5 : w5.cell? ⟨w.heap.size + 1, 1, none⟩ = some (.int .i64 0) := B1_5.cell 1
  have zf1_5 : w5.frozen? ⟨w.heap.size + 1, 1, none⟩ = false := B1_5.frozen 1
  have y2_5 : w5.cell? ⟨w.heap.size + 1 + 1, 2, none⟩ = some (.string nm) := B2_5.cell 2
  have yf2_5 : w5.frozen? ⟨w.heap.size + 1 + 1, 2, none⟩ = false := B2_5.frozen 2
  have z2_5 : w5.cell? ⟨w.heap.size + 1, 2, none⟩ = some (.string ByteArray.empty) := B1_5.cell 2
  have zf2_5 : w5.frozen? ⟨w.heap.size + 1, 2, none⟩ = false := B1_5.frozen 2
  have y3_5 : w5.cell? ⟨w.heap.size + 1 + 1, 3, none⟩ = some (.slice B1 l1.length d1) := B2_5.cell 3
  have yf3_5 : w5.frozen? ⟨w.heap.size + 1 + 1, 3, none⟩ = false := B2_5.frozen 3
  have z3_5 : w5.cell? ⟨w.heap.size + 1, 3, none⟩ = some (.slice none 0 0) := B1_5.cell 3
  have zf3_5 : w5.frozen? ⟨w.heap.size + 1, 3, none⟩ = false := B1_5.frozen 3
  have y4_5 : w5.cell? ⟨w.heap.size + 1 + 1, 4, none⟩ = some (.int .i64 wd) := B2_5.cell 4
  have yf4_5 : w5.frozen? ⟨w.heap.size + 1 + 1, 4, none⟩ = false := B2_5.frozen 4
  have z4_5 : w5.cell? ⟨w.heap.size + 1, 4, none⟩ = some (.int .i64 0) := B1_5.cell 4
  have zf4_5 : w5.frozen? ⟨w.heap.size + 1, 4, none⟩ = false := B1_5.frozen 4
  have y5_5 : w5.cell? ⟨w.heap.size + 1 + 1, 5, none⟩ = some (.int .i64 lf) := B2_5.cell 5
  have yf5_5 : w5.frozen? ⟨w.heap.size + 1 + 1, 5, none⟩ = false := B2_5.frozen 5
  have z5_5 : w5.cell? ⟨w.heap.size + 1, 5, none⟩ = some (.int .i64 0) := B1_5.cell 5
  have zf5_5 : w5.frozen? ⟨w.heap.size + 1, 5, none⟩ = false := B1_5.frozen 5
  have y6_5 : w5.cell? ⟨w.heap.size + 1 + 1, 6, none⟩ = some (.int .i64 rt) := B2_5.cell 6
  have yf6_5 : w5.frozen? ⟨w.heap.size + 1 + 1, 6, none⟩ = false := B2_5.frozen 6
  have z6_5 : w5.cell? ⟨w.heap.size + 1, 6, none⟩ = some (.int .i64 0) := B1_5.cell 6
  have zf6_5 : w5.frozen? ⟨w.heap.size + 1, 6, none⟩ = false := B1_5.frozen 6
  have y7_5 : w5.cell? ⟨w.heap.size + 1 + 1, 7, none⟩ = some (.int .i64 lud) := B2_5.cell 7
  have yf7_5 : w5.frozen? ⟨w.heap.size + 1 + 1, 7, none⟩ = false := B2_5.frozen 7
  have z7_5 : w5.cell? ⟨w.heap.size + 1, 7, none⟩ = some (.int .i64 0) := B1_5.cell 7
  have zf7_5 : w5.frozen? ⟨w.heap.size + 1, 7, none⟩ = false := B1_5.frozen 7
  have y8_5 : w5.cell? ⟨w.heap.size + 1 + 1, 8, none⟩ = some (.int .i64 lut) := B2_5.cell 8
  have yf8_5 : w5.frozen? ⟨w.heap.size + 1 + 1, 8, none⟩ = false := B2_5.frozen 8
  have z8_5 : w5.cell? ⟨w.heap.size + 1, 8, none⟩ = some (.int .i64 0) := B1_5.cell 8
  have zf8_5 : w5.frozen? ⟨w.heap.size + 1, 8, none⟩ = false := B1_5.frozen 8
  have y9_5 : w5.cell? ⟨w.heap.size + 1 + 1, 9, none⟩ = some (.int .i64 hud) := B2_5.cell 9
  have yf9_5 : w5.frozen? ⟨w.heap.size + 1 + 1, 9, none⟩ = false := B2_5.frozen 9
  have z9_5 : w5.cell? ⟨w.heap.size + 1, 9, none⟩ = some (.int .i64 0) := B1_5.cell 9
  have zf9_5 : w5.frozen? ⟨w.heap.size + 1, 9, none⟩ = false := B1_5.frozen 9
  have y10_5 : w5.cell? ⟨w.heap.size + 1 + 1, 10, none⟩ = some (.int .i64 hut) := B2_5.cell 10
  have yf10_5 : w5.frozen? ⟨w.heap.size + 1 + 1, 10, none⟩ = false := B2_5.frozen 10
  have z10_5 : w5.cell? ⟨w.heap.size + 1, 10, none⟩ = some (.int .i64 0) := B1_5.cell 10
  have zf10_5 : w5.frozen? ⟨w.heap.size + 1, 10, none⟩ = false := B1_5.frozen 10
  have y11_5 : w5.cell? ⟨w.heap.size + 1 + 1, 11, none⟩ = some (.int .i64 lvd) := B2_5.cell 11
  have yf11_5 : w5.frozen? ⟨w.heap.size + 1 + 1, 11, none⟩ = false := B2_5.frozen 11
  have z11_5 : w5.cell? ⟨w.heap.size + 1, 11, none⟩ = some (.int .i64 0) := B1_5.cell 11
  have zf11_5 : w5.frozen? ⟨w.heap.size + 1, 11, none⟩ = false := B1_5.frozen 11
  have y12_5 : w5.cell? ⟨w.heap.size + 1 + 1, 12, none⟩ = some (.int .i64 lvt) := B2_5.cell 12
  have yf12_5 : w5.frozen? ⟨w.heap.size + 1 + 1, 12, none⟩ = false := B2_5.frozen 12
  have z12_5 : w5.cell? ⟨w.heap.size + 1, 12, none⟩ = some (.int .i64 0) := B1_5.cell 12
  have zf12_5 : w5.frozen? ⟨w.heap.size + 1, 12, none⟩ = false := B1_5.frozen 12
  have y13_5 : w5.cell? ⟨w.heap.size + 1 + 1, 13, none⟩ = some (.int .i64 0) := B2_5.cell 13
  have yf13_5 : w5.frozen? ⟨w.heap.size + 1 + 1, 13, none⟩ = false := B2_5.frozen 13
  have z13_5 : w5.cell? ⟨w.heap.size + 1, 13, none⟩ = some (.int .i64 0) := B1_5.cell 13
  have zf13_5 : w5.frozen? ⟨w.heap.size + 1, 13, none⟩ = false := B1_5.frozen 13
  have y14_5 : w5.cell? ⟨w.heap.size + 1 + 1, 14, none⟩ = some (.int .i64 0) := B2_5.cell 14
  have yf14_5 : w5.frozen? ⟨w.heap.size + 1 + 1, 14, none⟩ = false := B2_5.frozen 14
  have z14_5 : w5.cell? ⟨w.heap.size + 1, 14, none⟩ = some (.int .i64 0) := B1_5.cell 14
  have zf14_5 : w5.frozen? ⟨w.heap.size + 1, 14, none⟩ = false := B1_5.frozen 14
  have x15_5 : w5.cell? ⟨w.heap.size, 15, none⟩ = some (.int .i64 ey) := B0_5.cell 15
  have y15_5 : w5.cell? ⟨w.heap.size + 1 + 1, 15, none⟩ = some (.int .i64 0) := B2_5.cell 15
  have yf15_5 : w5.frozen? ⟨w.heap.size + 1 + 1, 15, none⟩ = false := B2_5.frozen 15
  have z15_5 : w5.cell? ⟨w.heap.size + 1, 15, none⟩ = some (.int .i64 0) := B1_5.cell 15
  have zf15_5 : w5.frozen? ⟨w.heap.size + 1, 15, none⟩ = false := B1_5.frozen 15
  have x16_5 : w5.cell? ⟨w.heap.size, 16, none⟩ = some (.int .i64 bo) := B0_5.cell 16
  have y16_5 : w5.cell? ⟨w.heap.size + 1 + 1, 16, none⟩ = some (.int .i64 0) := B2_5.cell 16
  have yf16_5 : w5.frozen? ⟨w.heap.size + 1 + 1, 16, none⟩ = false := B2_5.frozen 16
  have z16_5 : w5.cell? ⟨w.heap.size + 1, 16, none⟩ = some (.int .i64 0) := B1_5.cell 16
  have zf16_5 : w5.frozen? ⟨w.heap.size + 1, 16, none⟩ = false := B1_5.frozen 16
  go_wp2_with fail
  refine bodyPost_world (fun wf hwf => ?_)
  have hB0 := ((((B1_5.far (p := ⟨w.heap.size + 1 + 1, 13, none⟩) (by first | omega | (simp; omega) | simp) (.int .i64 hvd)).far (p := ⟨w.heap.size + 1 + 1, 14, none⟩) (by first | omega | (simp; omega) | simp) (.int .i64 hvt)).far (p := ⟨w.heap.size + 1 + 1, 15, none⟩) (by first | omega | (simp; omega) | simp) (.int .i64 ey)).far (p := ⟨w.heap.size + 1 + 1, 16, none⟩) (by first | omega | (simp; omega) | simp) (.int .i64 bo))
  have hB1 := Blk.fill hB0 [.int .i64 fd, .int .i64 ft, .string nm, .slice B1 l1.length d1, .int .i64 wd, .int .i64 lf, .int .i64 rt, .int .i64 lud, .int .i64 lut, .int .i64 hud, .int .i64 hut, .int .i64 lvd, .int .i64 lvt, .int .i64 hvd, .int .i64 hvt, .int .i64 ey, .int .i64 bo] rfl
  simp only [stores, Nat.zero_add, Nat.reduceAdd] at hB1
  have Rf : Blk wf (w.heap.size + 1) 46 [.int .i64 fd, .int .i64 ft, .string nm, .slice B1 l1.length d1, .int .i64 wd, .int .i64 lf, .int .i64 rt, .int .i64 lud, .int .i64 lut, .int .i64 hud, .int .i64 hut, .int .i64 lvd, .int .i64 lvt, .int .i64 hvd, .int .i64 hvt, .int .i64 ey, .int .i64 bo].toArray := by rw [hwf]; exact hB1
  clear hB0 hB1
  have hbf : Below w.heap.size w wf := by rw [hwf]; exact (by repeat (first | with_reducible exact hB5 | with_reducible apply below_drewN' | with_reducible apply Below.drew | (with_reducible refine Below.alloc ?_ (by first | omega | (simp; omega) | simp | (have := (hB5).size; omega) | (have := (hB5).size; simp; omega)) _) | (with_reducible refine Below.setCell ?_ (by first | omega | (simp; omega) | simp | (have := (hB5).size; omega) | (have := (hB5).size; simp; omega)) _) | exact hB5))
  have hOf : Own wf (w.heap.size + 1 + 1 + 1) 2 1 (.slice B1 l1.length d1) (l1.map ic) := by rw [hwf]; repeat (first | with_reducible exact hO_1 | (with_reducible refine own_far ?_ (by first | omega | (simp; omega))))
  clear hwf
  refine bodyPost_ret (res_cells (k := 2) (vs := [.int .i64 fd, .int .i64 ft, .string nm, .slice B1 l1.length d1, .int .i64 wd, .int .i64 lf, .int .i64 rt, .int .i64 lud, .int .i64 lut, .int .i64 hud, .int .i64 hut, .int .i64 lvd, .int .i64 lvt, .int .i64 hvd, .int .i64 hvt, .int .i64 ey, .int .i64 bo]) Tryz.results49 rfl (aggRel wf) (szRel wf) Rf) rfl ⟨B1, d1, rfl, own_mono hOf (by omega), hbf⟩

set_option maxRecDepth 100000 in
set_option maxHeartbeats 4000000 in
theorem eqRelease_c (fd ft : Int) (nm : ByteArray) (A1 : Option Addr) (c1 : Nat) (A1' : Option Addr) (c1' : Nat) (l1 : List Int) (wd lf rt lud lut hud hut lvd lvt hvd hvt ey bo : Int) (w : World) (h1 : l1.length ≤ 1048576) (hs1 : Sl w w.heap.size 1 A1 (l1.map ic)) (hs2 : Sl w w.heap.size 1 A1' (l1.map ic)) :
    Calls Tryz.prog 53 #[.agg #[.int .i64 fd, .int .i64 ft, .string nm, .slice A1 l1.length c1, .int .i64 wd, .int .i64 lf, .int .i64 rt, .int .i64 lud, .int .i64 lut, .int .i64 hud, .int .i64 hut, .int .i64 lvd, .int .i64 lvt, .int .i64 hvd, .int .i64 hvt, .int .i64 ey, .int .i64 bo], .agg #[.int .i64 fd, .int .i64 ft, .string nm, .slice A1' l1.length c1', .int .i64 wd, .int .i64 lf, .int .i64 rt, .int .i64 lud, .int .i64 lut, .int .i64 hud, .int .i64 hut, .int .i64 lvd, .int .i64 lvt, .int .i64 hvd, .int .i64 hvt, .int .i64 ey, .int .i64 bo]] w fun e w' => e = .returned (.bool true) ∧ Below w.heap.size w w' := by
  go_enter Tryz.func53, Tryz.ntmps53
  go_wp2_with fail
  refine (eqChart_c fd ft nm A1 c1 A1' c1' l1 wd lf rt _ (by omega) ((hs1.below ((by repeat (first | with_reducible exact Below.refl _ _ | with_reducible apply below_drewN' | with_reducible apply Below.drew | (with_reducible refine Below.alloc ?_ (by first | omega | (simp; omega) | simp | (have := (Below.refl _ _).size; omega) | (have := (Below.refl _ _).size; simp; omega)) _) | (with_reducible refine Below.setCell ?_ (by first | omega | (simp; omega) | simp | (have := (Below.refl _ _).size; omega) | (have := (Below.refl _ _).size; simp; omega)) _) | exact Below.refl _ _)))).more (by first | omega | (simp; omega) | simp)) ((hs2.below ((by repeat (first | with_reducible exact Below.refl _ _ | with_reducible apply below_drewN' | with_reducible apply Below.drew | (with_reducible refine Below.alloc ?_ (by first | omega | (simp; omega) | simp | (have := (Below.refl _ _).size; omega) | (have := (Below.refl _ _).size; simp; omega)) _) | (with_reducible refine Below.setCell ?_ (by first | omega | (simp; omega) | simp | (have := (Below.refl _ _).size; omega) | (have := (Below.refl _ _).size; simp; omega)) _) | exact Below.refl _ _)))).more (by first | omega | (simp; omega) | simp))).mono ?_; rintro e w1 ⟨rfl, hb1⟩
  have B0_1 := ((Blk.new w 46 #[.int .i64 fd, .int .i64 ft, .string nm, .slice A1 l1.length c1, .int .i64 wd, .int .i64 lf, .int .i64 rt, .int .i64 lud, .int .i64 lut, .int .i64 hud, .int .i64 hut, .int .i64 lvd, .int .i64 lvt, .int .i64 hvd, .int .i64 hvt, .int .i64 ey, .int .i64 bo]).alloc (.cells #[.int .i64 fd, .int .i64 ft, .string nm, .slice A1' l1.length c1', .int .i64 wd, .int .i64 lf, .int .i64 rt, .int .i64 lud, .int .i64 lut, .int .i64 hud, .int .i64 hut, .int .i64 lvd, .int .i64 lvt, .int .i64 hvd, .int .i64 hvt, .int .i64 ey, .int .i64 bo] 46)).below hb1 (by first | omega | (simp; omega) | simp)
  have B1_1 := (Blk.new' (w.alloc (.cells #[.int .i64 fd, .int .i64 ft, .string nm, .slice A1 l1.length c1, .int .i64 wd, .int .i64 lf, .int .i64 rt, .int .i64 lud, .int .i64 lut, .int .i64 hud, .int .i64 hut, .int .i64 lvd, .int .i64 lvt, .int .i64 hvd, .int .i64 hvt, .int .i64 ey, .int .i64 bo] 46)) 46 #[.int .i64 fd, .int .i64 ft, .string nm, .slice A1' l1.length c1', .int .i64 wd, .int .i64 lf, .int .i64 rt, .int .i64 lud, .int .i64 lut, .int .i64 hud, .int .i64 hut, .int .i64 lvd, .int .i64 lvt, .int .i64 hvd, .int .i64 hvt, .int .i64 ey, .int .i64 bo] (g := w.heap.size + 1) (by simp)).below hb1 (by first | omega | (simp; omega) | simp)
  have hB1 : Below w.heap.size w w1 := Below.trans ((by repeat (first | with_reducible exact Below.refl _ _ | with_reducible apply below_drewN' | with_reducible apply Below.drew | (with_reducible refine Below.alloc ?_ (by first | omega | (simp; omega) | simp | (have := (Below.refl _ _).size; omega) | (have := (Below.refl _ _).size; simp; omega)) _) | (with_reducible refine Below.setCell ?_ (by first | omega | (simp; omega) | simp | (have := (Below.refl _ _).size; omega) | (have := (Below.refl _ _).size; simp; omega)) _) | exact Below.refl _ _))) (hb1.mono (by first | omega | (simp; omega) | simp))
  have hBs1 := hB1.size
  have hZ1 := B1_1.lt
  have x7_1 : w1.cell? ⟨w.heap.size, 7, none⟩ = some (.int .i64 lud) := B0_1.cell 7
  have y7_1 : w1.cell? ⟨w.heap.size + 1, 7, none⟩ = some (.int .i64 lud) := B1_1.cell 7
  have x8_1 : w1.cell? ⟨w.heap.size, 8, none⟩ = some (.int .i64 lut) := B0_1.cell 8
  have y8_1 : w1.cell? ⟨w.heap.size + 1, 8, none⟩ = some (.int .i64 lut) := B1_1.cell 8
  go_wp2_with fail
  refine (eqFigure_c lud lut _).mono ?_; rintro e w2 ⟨rfl, hb2⟩
  have B0_2 := B0_1.below hb2 (by first | omega | (simp; omega) | simp)
  have B1_2 := B1_1.below hb2 (by first | omega | (simp; omega) | simp)
  have hB2 : Below w.heap.size w w2 := Below.trans ((by repeat (first | with_reducible exact hB1 | with_reducible apply below_drewN' | with_reducible apply Below.drew | (with_reducible refine Below.alloc ?_ (by first | omega | (simp; omega) | simp | (have := (hB1).size; omega) | (have := (hB1).size; simp; omega)) _) | (with_reducible refine Below.setCell ?_ (by first | omega | (simp; omega) | simp | (have := (hB1).size; omega) | (have := (hB1).size; simp; omega)) _) | exact hB1))) (hb2.mono (by first | omega | (simp; omega) | simp))
  have hBs2 := hB2.size
  have hZ2 := B1_2.lt
  clear x7_1 y7_1 x8_1 y8_1 B0_1 B1_1
  have x9_2 : w2.cell? ⟨w.heap.size, 9, none⟩ = some (.int .i64 hud) := B0_2.cell 9
  have y9_2 : w2.cell? ⟨w.heap.size + 1, 9, none⟩ = some (.int .i64 hud) := B1_2.cell 9
  have x10_2 : w2.cell? ⟨w.heap.size, 10, none⟩ = some (.int .i64 hut) := B0_2.cell 10
  have y10_2 : w2.cell? ⟨w.heap.size + 1, 10, none⟩ = some (.int .i64 hut) := B1_2.cell 10
  go_wp2_with fail
  refine (eqFigure_c hud hut _).mono ?_; rintro e w3 ⟨rfl, hb3⟩
  have B0_3 := B0_2.below hb3 (by first | omega | (simp; omega) | simp)
  have B1_3 := B1_2.below hb3 (by first | omega | (simp; omega) | simp)
  have hB3 : Below w.heap.size w w3 := Below.trans ((by repeat (first | with_reducible exact hB2 | with_reducible apply below_drewN' | with_reducible apply Below.drew | (with_reducible refine Below.alloc ?_ (by first | omega | (simp; omega) | simp | (have := (hB2).size; omega) | (have := (hB2).size; simp; omega)) _) | (with_reducible refine Below.setCell ?_ (by first | omega | (simp; omega) | simp | (have := (hB2).size; omega) | (have := (hB2).size; simp; omega)) _) | exact hB2))) (hb3.mono (by first | omega | (simp; omega) | simp))
  have hBs3 := hB3.size
  have hZ3 := B1_3.lt
  clear x9_2 y9_2 x10_2 y10_2 B0_2 B1_2
  have x11_3 : w3.cell? ⟨w.heap.size, 11, none⟩ = some (.int .i64 lvd) := B0_3.cell 11
  have y11_3 : w3.cell? ⟨w.heap.size + 1, 11, none⟩ = some (.int .i64 lvd) := B1_3.cell 11
  have x12_3 : w3.cell? ⟨w.heap.size, 12, none⟩ = some (.int .i64 lvt) := B0_3.cell 12
  have y12_3 : w3.cell? ⟨w.heap.size + 1, 12, none⟩ = some (.int .i64 lvt) := B1_3.cell 12
  go_wp2_with fail
  refine (eqFigure_c lvd lvt _).mono ?_; rintro e w4 ⟨rfl, hb4⟩
  have B0_4 := B0_3.below hb4 (by first | omega | (simp; omega) | simp)
  have B1_4 := B1_3.below hb4 (by first | omega | (simp; omega) | simp)
  have hB4 : Below w.heap.size w w4 := Below.trans ((by repeat (first | with_reducible exact hB3 | with_reducible apply below_drewN' | with_reducible apply Below.drew | (with_reducible refine Below.alloc ?_ (by first | omega | (simp; omega) | simp | (have := (hB3).size; omega) | (have := (hB3).size; simp; omega)) _) | (with_reducible refine Below.setCell ?_ (by first | omega | (simp; omega) | simp | (have := (hB3).size; omega) | (have := (hB3).size; simp; omega)) _) | exact hB3))) (hb4.mono (by first | omega | (simp; omega) | simp))
  have hBs4 := hB4.size
  have hZ4 := B1_4.lt
  clear x11_3 y11_3 x12_3 y12_3 B0_3 B1_3
  have x13_4 : w4.cell? ⟨w.heap.size, 13, none⟩ = some (.int .i64 hvd) := B0_4.cell 13
  have y13_4 : w4.cell? ⟨w.heap.size + 1, 13, none⟩ = some (.int .i64 hvd) := B1_4.cell 13
  have x14_4 : w4.cell? ⟨w.heap.size, 14, none⟩ = some (.int .i64 hvt) := B0_4.cell 14
  have y14_4 : w4.cell? ⟨w.heap.size + 1, 14, none⟩ = some (.int .i64 hvt) := B1_4.cell 14
  go_wp2_with fail
  refine (eqFigure_c hvd hvt _).mono ?_; rintro e w5 ⟨rfl, hb5⟩
  have B0_5 := B0_4.below hb5 (by first | omega | (simp; omega) | simp)
  have B1_5 := B1_4.below hb5 (by first | omega | (simp; omega) | simp)
  have hB5 : Below w.heap.size w w5 := Below.trans ((by repeat (first | with_reducible exact hB4 | with_reducible apply below_drewN' | with_reducible apply Below.drew | (with_reducible refine Below.alloc ?_ (by first | omega | (simp; omega) | simp | (have := (hB4).size; omega) | (have := (hB4).size; simp; omega)) _) | (with_reducible refine Below.setCell ?_ (by first | omega | (simp; omega) | simp | (have := (hB4).size; omega) | (have := (hB4).size; simp; omega)) _) | exact hB4))) (hb5.mono (by first | omega | (simp; omega) | simp))
  have hBs5 := hB5.size
  have hZ5 := B1_5.lt
  clear x13_4 y13_4 x14_4 y14_4 B0_4 B1_4
  have x15_5 : w5.cell? ⟨w.heap.size, 15, none⟩ = some (.int .i64 ey) := B0_5.cell 15
  have y15_5 : w5.cell? ⟨w.heap.size + 1, 15, none⟩ = some (.int .i64 ey) := B1_5.cell 15
  have x16_5 : w5.cell? ⟨w.heap.size, 16, none⟩ = some (.int .i64 bo) := B0_5.cell 16
  have y16_5 : w5.cell? ⟨w.heap.size + 1, 16, none⟩ = some (.int .i64 bo) := B1_5.cell 16
  go_wp2_with fail
  go_ret
  exact ⟨rfl, (by repeat (first | with_reducible exact hB5 | with_reducible apply below_drewN' | with_reducible apply Below.drew | (with_reducible refine Below.alloc ?_ (by first | omega | (simp; omega) | simp | (have := (hB5).size; omega) | (have := (hB5).size; simp; omega)) _) | (with_reducible refine Below.setCell ?_ (by first | omega | (simp; omega) | simp | (have := (hB5).size; omega) | (have := (hB5).size; simp; omega)) _) | exact hB5))⟩
set_option maxRecDepth 100000 in
set_option maxHeartbeats 4000000 in
theorem szRelease_c (fd ft : Int) (nm : ByteArray) (A1 : Option Addr) (n1 c1 : Nat) (wd lf rt lud lut hud hut lvd lvt hvd hvt ey bo : Int) (left : Int) (w : World) (hn : n1 ≤ 140737488351232) (hm : nm.size ≤ maxLen) (hl : 0 ≤ left ∧ left ≤ 1048576) :
    Calls Tryz.prog 46 #[.agg #[.int .i64 fd, .int .i64 ft, .string nm, .slice A1 n1 c1, .int .i64 wd, .int .i64 lf, .int .i64 rt, .int .i64 lud, .int .i64 lut, .int .i64 hud, .int .i64 hut, .int .i64 lvd, .int .i64 lvt, .int .i64 hvd, .int .i64 hvt, .int .i64 ey, .int .i64 bo], .int .i64 left] w (SzP left (nm.size ≤ 1048576 ∧ n1 ≤ 1048576) w) := by
  have H := Lib.hid (fun W => szChart_c fd ft nm A1 n1 c1 wd lf rt left W hn hm hl)
  have hW : Below w.heap.size w (w.alloc (.cells #[.int .i64 fd, .int .i64 ft, .string nm, .slice A1 n1 c1, .int .i64 wd, .int .i64 lf, .int .i64 rt, .int .i64 lud, .int .i64 lut, .int .i64 hud, .int .i64 hut, .int .i64 lvd, .int .i64 lvt, .int .i64 hvd, .int .i64 hvt, .int .i64 ey, .int .i64 bo] 31)) := (by repeat (first | with_reducible exact Below.refl _ _ | with_reducible apply below_drewN' | with_reducible apply Below.drew | (with_reducible refine Below.alloc ?_ (by first | omega | (simp; omega) | simp | (have := (Below.refl _ _).size; omega) | (have := (Below.refl _ _).size; simp; omega)) _) | (with_reducible refine Below.setCell ?_ (by first | omega | (simp; omega) | simp | (have := (Below.refl _ _).size; omega) | (have := (Below.refl _ _).size; simp; omega)) _) | exact Below.refl _ _))
  go_enter Tryz.func46, Tryz.ntmps46
  go_wp2_with fail
  refine Calls.mono (H.out _) ?_; rintro e w1 ⟨⟨v, rfl, hv⟩, hb1⟩
  have hW1 := hW.trans (hb1.mono hW.size)
  rcases hv with hv | ⟨hv0, hv1, hlen⟩
  · go_wp2
    go_ret
    exact ⟨⟨-1, rfl, .inl (by omega)⟩, (by repeat (first | with_reducible exact hW1 | with_reducible apply below_drewN' | with_reducible apply Below.drew | (with_reducible refine Below.alloc ?_ (by first | omega | (simp; omega) | simp | (have := (hW1).size; omega) | (have := (hW1).size; simp; omega)) _) | (with_reducible refine Below.setCell ?_ (by first | omega | (simp; omega) | simp | (have := (hW1).size; omega) | (have := (hW1).size; simp; omega)) _) | exact hW1))⟩
  · have hvn : ¬ v < 0 := by omega
    go_wp2
    go_ret
    exact ⟨⟨v, rfl, .inr ⟨hv0, hv1, hlen⟩⟩, (by repeat (first | with_reducible exact hW1 | with_reducible apply below_drewN' | with_reducible apply Below.drew | (with_reducible refine Below.alloc ?_ (by first | omega | (simp; omega) | simp | (have := (hW1).size; omega) | (have := (hW1).size; simp; omega)) _) | (with_reducible refine Below.setCell ?_ (by first | omega | (simp; omega) | simp | (have := (hW1).size; omega) | (have := (hW1).size; simp; omega)) _) | exact hW1))⟩
end Go.Proofs.YtendoabjjfinhaaGreatDoor
namespace Go.Proofs.YtendoabjjfinhaaGreatDoor
open Go.RowKit
structure Rl where
  fd : Int
  ft : Int
  nm : ByteArray
  l : List Int
  wd : Int
  lf : Int
  rt : Int
  lud : Int
  lut : Int
  hud : Int
  hut : Int
  lvd : Int
  lvt : Int
  hvd : Int
  hvt : Int
  ey : Int
  bo : Int
def Rl.cells (r : Rl) (A : Option Addr) (c : Nat) : List Value := [.int .i64 r.fd, .int .i64 r.ft, .string r.nm, .slice A r.l.length c, .int .i64 r.wd, .int .i64 r.lf, .int .i64 r.rt, .int .i64 r.lud, .int .i64 r.lut, .int .i64 r.hud, .int .i64 r.hut, .int .i64 r.lvd, .int .i64 r.lvt, .int .i64 r.hvd, .int .i64 r.hvt, .int .i64 r.ey, .int .i64 r.bo]
def Rl.zero : List Value := [.int .i64 0, .int .i64 0, .string ByteArray.empty, .slice none 0 0, .int .i64 0, .int .i64 0, .int .i64 0, .int .i64 0, .int .i64 0, .int .i64 0, .int .i64 0, .int .i64 0, .int .i64 0, .int .i64 0, .int .i64 0, .int .i64 0, .int .i64 0]
theorem Rl.len (r : Rl) (A : Option Addr) (c : Nat) : (r.cells A c).length = 17 := rfl
theorem Rl.one (r : Rl) (A : Option Addr) (c : Nat) : ∀ v ∈ r.cells A c, v.oneCell' = true := by
  unfold Rl.cells
  simp only [List.mem_cons, List.not_mem_nil, or_false]
  rintro v hv
  rcases hv with h | h | h | h | h | h | h | h | h | h | h | h | h | h | h | h | h <;> subst h <;> rfl
def Rl.b (r : Rl) : Bool := relB r.fd r.ft r.nm r.l r.wd r.lf r.rt ⟨r.lud, r.lut⟩ ⟨r.hud, r.hut⟩ ⟨r.lvd, r.lvt⟩ ⟨r.hvd, r.hvt⟩ r.ey r.bo
def Rl.nums (r : Rl) : List Int := relNums r.fd r.ft r.l r.wd r.lf r.rt ⟨r.lud, r.lut⟩ ⟨r.hud, r.hut⟩ ⟨r.lvd, r.lvt⟩ ⟨r.hvd, r.hvt⟩ r.ey r.bo
structure RlIn (w : World) (A : Option Addr) (c : Nat) (r : Rl) : Prop where
  h : r.l.length ≤ 1048576
  hn : r.nm.size ≤ 1048576
  s : Sl w w.heap.size 1 A (r.l.map ic)
theorem RlIn.later {w W : World} {A : Option Addr} {c : Nat} {r : Rl} (E : RlIn w A c r) (hW : Below w.heap.size w W) : RlIn W A c r := ⟨E.h, E.hn, (E.s.below hW).more hW.size⟩
structure RlLaid (w : World) (A : Option Addr) (c : Nat) (r : Rl) : Prop where
  hm : r.nm.size ≤ maxLen
  k : r.l.length ≤ c
  z : r.l.length ≤ 140737488351232
  s : Sl w w.heap.size 1 A (r.l.map ic)
theorem RlLaid.rl {w : World} {A : Option Addr} {c : Nat} {r : Rl} (E : RlLaid w A c r) (h : r.nm.size ≤ 1048576 ∧ r.l.length ≤ 1048576) : RlIn w A c r := ⟨h.2, h.1, E.s⟩
/-- a whole struct into the block that was made last -/
theorem wpList_store_new {P : Program} {ops : Array Oper} {rest : List Oper} {op : Oper} {a : Act} {w : World} {Q : Exit → Act → World → Prop} {ty : TypeId} {c : Array Value} (hgd : op.guard = none) (x y : Operand) (ho : op.op = .store ty x y)
    (cs : List Value) (hx : a.eval x = .pointer (some ⟨w.heap.size, 0, none⟩)) (hy : a.eval y = .agg cs.toArray) (hi : (P.info? ty).map (·.size) = some cs.length) (hs : c.size = cs.length) (h1 : ∀ v ∈ cs, v.oneCell' = true)
    (h : wpList P ops Q rest (a.put op.dst undef) (w.alloc (.cells cs.toArray ty))) : wpList P ops Q (op :: rest) a (w.alloc (.cells c ty)) := by
  refine wpList_plain hgd fun K hK => ?_
  unfold Oper.wp execOp
  have hr := run_storeVar_new (P := P) w ty c cs.toArray (by simpa using hi) (by simpa using hs) (all_oneCell_toArray h1)
  simp only [ho, hx, hy, Instr.storeAt, Instr.sureAddr, Sem.run_bind, Sem.run_pure, Result.andThen_ok, hr]
  exact hK _ _ h
def RlCopy (r : Rl) (v : Value) (w : World) : Prop := ∃ B d, v = .agg (r.cells B d).toArray ∧ RlIn w B d r
theorem RlCopy.below {r : Rl} {v : Value} {w w' : World} (h : RlCopy r v w) (hb : Below w.heap.size w w') : RlCopy r v w' := let ⟨B, d, h1, h2⟩ := h; ⟨B, d, h1, h2.later hb⟩
theorem toRl_c (r : Rl) (A : Option Addr) (c : Nat) (w : World) (E : RlIn w A c r) : Calls Tryz.prog 49 #[.agg (r.cells A c).toArray] w fun e w' => (∃ v, e = .returned v ∧ RlCopy r v w') ∧ Below w.heap.size w w' :=
  (toRelease_c r.fd r.ft r.nm A c r.l r.wd r.lf r.rt r.lud r.lut r.hud r.hut r.lvd r.lvt r.hvd r.hvt r.ey r.bo w E.h E.s).mono fun _ _ ⟨B, d, he, o, hb⟩ => ⟨⟨_, he, B, d, rfl, E.h, E.hn, o.sl⟩, hb⟩
theorem eqRl_c (r : Rl) (A : Option Addr) (c : Nat) (B : Option Addr) (d : Nat) (w : World) (E : RlIn w A c r) (F : RlIn w B d r) : Calls Tryz.prog 53 #[.agg (r.cells A c).toArray, .agg (r.cells B d).toArray] w fun e w' => e = .returned (.bool true) ∧ Below w.heap.size w w' :=
  eqRelease_c r.fd r.ft r.nm A c B d r.l r.wd r.lf r.rt r.lud r.lut r.hud r.hut r.lvd r.lvt r.hvd r.hvt r.ey r.bo w E.h E.s F.s
theorem szRl_c (r : Rl) (A : Option Addr) (c : Nat) (left : Int) (w : World) (E : RlLaid w A c r) (hl : 0 ≤ left ∧ left ≤ 1048576) : Calls Tryz.prog 46 #[.agg (r.cells A c).toArray, .int .i64 left] w (SzP left (r.nm.size ≤ 1048576 ∧ r.l.length ≤ 1048576) w) :=
  szRelease_c r.fd r.ft r.nm A r.l.length c r.wd r.lf r.rt r.lud r.lut r.hud r.hut r.lvd r.lvt r.hvd r.hvt r.ey r.bo left w E.z E.hm hl
theorem implIsRl_c (r : Rl) (A : Option Addr) (c : Nat) (w : World) (E : RlIn w A c r) : Calls Tryz.prog 69 #[.agg (r.cells A c).toArray] w fun e w' => e = .returned (.bool r.b) ∧ Below w.heap.size w w' :=
  implIsRelease_c r.fd r.ft r.nm A c r.l r.wd r.lf r.rt ⟨r.lud, r.lut⟩ ⟨r.hud, r.hut⟩ ⟨r.lvd, r.lvt⟩ ⟨r.hvd, r.hvt⟩ r.ey r.bo w E.hn E.h E.s
theorem implMarkRl_c (r : Rl) (A : Option Addr) (c : Nat) (w : World) (E : RlIn w A c r) : Calls Tryz.prog 36 #[.agg (r.cells A c).toArray] w fun e w' => e = .returned (.tuple #[.int .i64 (relMark r.b r.nums), .int .i64 (relCode r.b)]) ∧ Below w.heap.size w w' :=
  implMarkOf_c r.fd r.ft r.nm A c r.l r.wd r.lf r.rt ⟨r.lud, r.lut⟩ ⟨r.hud, r.hut⟩ ⟨r.lvd, r.lvt⟩ ⟨r.hvd, r.hvt⟩ r.ey r.bo w E.hn E.h E.s
theorem specIsRl_c (r : Rl) (A : Option Addr) (c : Nat) (w : World) (E : RlIn w A c r) : Calls Tryz.prog 74 #[.agg (r.cells A c).toArray] w fun e w' => e = .returned (.bool r.b) ∧ Below w.heap.size w w' :=
  specIsRelease_c r.fd r.ft r.nm A c r.l r.wd r.lf r.rt ⟨r.lud, r.lut⟩ ⟨r.hud, r.hut⟩ ⟨r.lvd, r.lvt⟩ ⟨r.hvd, r.hvt⟩ r.ey r.bo w E.hn E.h E.s
theorem specMarkRl_c (r : Rl) (A : Option Addr) (c : Nat) (w : World) (E : RlIn w A c r) : Calls Tryz.prog 37 #[.agg (r.cells A c).toArray] w fun e w' => e = .returned (.tuple #[.int .i64 (relMark r.b r.nums), .int .i64 (relCode r.b)]) ∧ Below w.heap.size w w' :=
  specMarkOf_c r.fd r.ft r.nm A c r.l r.wd r.lf r.rt ⟨r.lud, r.lut⟩ ⟨r.hud, r.hut⟩ ⟨r.lvd, r.lvt⟩ ⟨r.hvd, r.hvt⟩ r.ey r.bo w E.hn E.h E.s
end Go.Proofs.YtendoabjjfinhaaGreatDoor
namespace Go.Proofs.YtendoabjjfinhaaGreatDoor
open Go.RowKit
structure En where
  ti : ByteArray
  ve : Int
  r : Rl
  ba : Int
def En.cells (e : En) (A : Option Addr) (c : Nat) : List Value := [.string e.ti, .int .i64 e.ve] ++ e.r.cells A c ++ [.int .i64 e.ba]
theorem En.len (e : En) (A : Option Addr) (c : Nat) : (e.cells A c).length = 20 := rfl
theorem En.one (e : En) (A : Option Addr) (c : Nat) : ∀ v ∈ e.cells A c, v.oneCell' = true := by
  intro v hv
  unfold En.cells at hv
  rcases List.mem_append.1 hv with h | h
  · rcases List.mem_append.1 h with h | h
    · simp only [List.mem_cons, List.not_mem_nil, or_false] at h
      rcases h with rfl | rfl <;> rfl
    · exact e.r.one A c v h
  · simp only [List.mem_singleton] at h
    subst h
    rfl
structure EnIn (w : World) (A : Option Addr) (c : Nat) (e : En) : Prop where
  t : e.ti.size ≤ 1048576
  r : RlIn w A c e.r
theorem EnIn.later {w W : World} {A : Option Addr} {c : Nat} {e : En} (E : EnIn w A c e) (hW : Below w.heap.size w W) : EnIn W A c e := ⟨E.t, E.r.later hW⟩
structure EnLaid (w : World) (A : Option Addr) (c : Nat) (e : En) : Prop where
  t : e.ti.size ≤ maxLen
  r : RlLaid w A c e.r
theorem RlLaid.later {w W : World} {A : Option Addr} {c : Nat} {r : Rl} (E : RlLaid w A c r) (hW : Below w.heap.size w W) : RlLaid W A c r := ⟨E.hm, E.k, E.z, (E.s.below hW).more hW.size⟩
theorem EnLaid.later {w W : World} {A : Option Addr} {c : Nat} {e : En} (E : EnLaid w A c e) (hW : Below w.heap.size w W) : EnLaid W A c e := ⟨E.t, E.r.later hW⟩
def En.short (e : En) : Prop := e.ti.size ≤ 1048576 ∧ e.r.nm.size ≤ 1048576 ∧ e.r.l.length ≤ 1048576
theorem EnLaid.en {w : World} {A : Option Addr} {c : Nat} {e : En} (E : EnLaid w A c e) (h : e.short) : EnIn w A c e := ⟨h.1, E.r.rl h.2⟩
/-- the parts of an entry's block -/
theorem Blk.en {w : World} {g : Nat} {t : TypeId} {e : En} {A : Option Addr} {c : Nat} (h : Blk w g t (e.cells A c).toArray) :
    w.cell? ⟨g, 0, none⟩ = some (.string e.ti) ∧ w.cell? ⟨g, 1, none⟩ = some (.int .i64 e.ve) ∧ w.rangeAt g 2 (e.r.cells A c) ∧ w.cell? ⟨g, 19, none⟩ = some (.int .i64 e.ba) :=
  ⟨h.cell 0, h.cell 1, Blk.part (xs := [.string e.ti, .int .i64 e.ve]) (ys := [.int .i64 e.ba]) h rfl, h.cell 19⟩
set_option maxRecDepth 100000 in
theorem szEn_c (e : En) (A : Option Addr) (c : Nat) (left : Int) (w : World) (E : EnLaid w A c e) (hl : 0 ≤ left ∧ left ≤ 1048576) :
    Calls Tryz.prog 7 #[.agg (e.cells A c).toArray, .int .i64 left] w (SzP left e.short w) := by
  obtain ⟨h1, h2⟩ := hl
  have hW : Below w.heap.size w (w.alloc (.cells (e.cells A c).toArray 33)) := (by repeat (first | with_reducible exact Below.refl _ _ | with_reducible apply below_drewN' | with_reducible apply Below.drew | (with_reducible refine Below.alloc ?_ (by first | omega | (simp; omega) | simp | (have := (Below.refl _ _).size; omega) | (have := (Below.refl _ _).size; simp; omega)) _) | (with_reducible refine Below.setCell ?_ (by first | omega | (simp; omega) | simp | (have := (Below.refl _ _).size; omega) | (have := (Below.refl _ _).size; simp; omega)) _) | exact Below.refl _ _))
  have B0 := Blk.new w 33 (e.cells A c).toArray
  obtain ⟨y0, y1, y2, y3⟩ := B0.en
  have HZ := Lib.hid (fun W m (hW : Below w.heap.size w W) h => szRl_c e.r A c m W (E.r.later hW) h)
  have ht := E.t
  unfold maxLen at ht
  clear E y1 y3
  have hcl := e.r.len A c
  generalize e.r.cells A c = rc at *
  generalize (e.cells A c).toArray = cs at *
  by_cases h : left < e.ti.size
  · have h' : left - e.ti.size < 0 := by omega
    have hw : IntKind.i64.wrap (left - e.ti.size) = left - e.ti.size := IntWalk.i64_in _ (by omega)
    go_enter Tryz.func7, Tryz.ntmps7
    go_wp2
    go_ret
    exact ⟨⟨-1, rfl, .inl (by omega)⟩, hW⟩
  · have h' : ¬ left - e.ti.size < 0 := by omega
    have hw : IntKind.i64.wrap (left - e.ti.size) = left - e.ti.size := IntWalk.i64_in _ (by omega)
    go_enter Tryz.func7, Tryz.ntmps7
    go_wp2_with (refine wpList_load_mid rfl 31 _ rfl (w.heap.size) 2 rfl (rc) _ y2 Tryz.underlying31 rfl (by kernel_rfl) ?_)
    refine Calls.mono (HZ.out _ (left - e.ti.size) hW ⟨by omega, by omega⟩) ?_; rintro x w1 ⟨⟨v, rfl, hv⟩, hb1⟩
    have hW1 := hW.trans (hb1.mono hW.size)
    rcases hv with hv | ⟨hv0, hvl, hlen⟩
    · go_wp2
      go_ret
      exact ⟨⟨-1, rfl, .inl (by omega)⟩, hW1⟩
    · have hvn : ¬ v < 0 := by omega
      go_wp2
      go_ret
      exact ⟨⟨v, rfl, .inr ⟨by omega, by omega, by omega, hlen⟩⟩, hW1⟩
set_option maxRecDepth 100000 in
theorem eqEn_c (e : En) (A : Option Addr) (c : Nat) (B : Option Addr) (d : Nat) (w : World) (E : EnIn w A c e) (F : EnIn w B d e) :
    Calls Tryz.prog 13 #[.agg (e.cells A c).toArray, .agg (e.cells B d).toArray] w fun x w' => x = .returned (.bool true) ∧ Below w.heap.size w w' := by
  have hW : Below w.heap.size w ((w.alloc (.cells (e.cells A c).toArray 48)).alloc (.cells (e.cells B d).toArray 48)) := (by repeat (first | with_reducible exact Below.refl _ _ | with_reducible apply below_drewN' | with_reducible apply Below.drew | (with_reducible refine Below.alloc ?_ (by first | omega | (simp; omega) | simp | (have := (Below.refl _ _).size; omega) | (have := (Below.refl _ _).size; simp; omega)) _) | (with_reducible refine Below.setCell ?_ (by first | omega | (simp; omega) | simp | (have := (Below.refl _ _).size; omega) | (have := (Below.refl _ _).size; simp; omega)) _) | exact Below.refl _ _))
  have X := (Blk.new w 48 (e.cells A c).toArray).alloc (.cells (e.cells B d).toArray 48)
  have Y := Blk.new' (w.alloc (.cells (e.cells A c).toArray 48)) 48 (e.cells B d).toArray (g := w.heap.size + 1) (by simp)
  have HE := Lib.hid (fun W (hW : Below w.heap.size w W) => eqRl_c e.r A c B d W (E.r.later hW) (F.r.later hW))
  obtain ⟨x0, x1, x2, _⟩ := X.en
  obtain ⟨y0, y1, y2, _⟩ := Y.en
  have hX : Hid (∀ W, Below w.heap.size w W → True) := Lib.hid (fun _ _ => trivial)
  have X3 : ∀ W, Blk W w.heap.size 48 (e.cells A c).toArray → W.cell? ⟨w.heap.size, 19, none⟩ = some (.int .i64 e.ba) := fun W h => h.en.2.2.2
  have Y3 : ∀ W, Blk W (w.heap.size + 1) 48 (e.cells B d).toArray → W.cell? ⟨w.heap.size + 1, 19, none⟩ = some (.int .i64 e.ba) := fun W h => h.en.2.2.2
  replace X3 := Lib.hid X3
  replace Y3 := Lib.hid Y3
  clear E F hX
  generalize e.r.cells A c = ra at *
  generalize e.r.cells B d = rb at *
  generalize (e.cells A c).toArray = ca at *
  generalize (e.cells B d).toArray = cb at *
  go_enter Tryz.func13, Tryz.ntmps13
  go_wp2_with (first | (refine wpList_load_mid rfl 46 _ rfl (w.heap.size) 2 rfl (ra) _ x2 Tryz.underlying46 rfl (by kernel_rfl) ?_) | (refine wpList_load_mid rfl 46 _ rfl (w.heap.size + 1) 2 rfl (rb) _ y2 Tryz.underlying46 rfl (by kernel_rfl) ?_))
  refine Calls.mono (HE.out _ hW) ?_; rintro x w1 ⟨rfl, hb1⟩
  have hW1 := hW.trans (hb1.mono hW.size)
  have z0 := X3.out w1 (X.below hb1 X.lt)
  have z1 := Y3.out w1 (Y.below hb1 Y.lt)
  clear x0 x1 x2 y0 y1 y2
  go_wp2
  go_ret
  exact ⟨rfl, hW1⟩
end Go.Proofs.YtendoabjjfinhaaGreatDoor
