/- The codes of a rule, a chain and errors, the program's and the reference's. No condition beyond the lists' lengths. -/
import Derived.Test.YtednjmldjbndhaaGreatKEy4
import Derived.Test.YtednjmldjbndhaaGreatKEy5
set_option linter.unusedSimpArgs false
set_option linter.unusedVariables false
namespace Go.Proofs.YtednjmldjbndhaaGreat
open Go.RowKit
def planCode (L : Int) (l1 l2 : List Int) (l3 : List Term) : Int := if ruleB L l1 l2 && chainB l3 then (if decide ((0 : Int) ∈ l1) && decide ((0 : Int) ∈ l2) then 0 else 5) else 1
def boundCode (L : Int) (l1 l2 : List Int) (l3 : List Term) (p q r : Int) : Int := if errorsB p q r then planCode L l1 l2 l3 else 1
theorem hasScaleStock_c (L : Int) (A1 : Option Addr) (c1 : Nat) (l1 : List Int) (v : Value) (x : Int) (w : World) (h1 : l1.length ≤ 1048576) (hs1 : Sl w w.heap.size 1 A1 (l1.map ic)) :
    Calls Tryz.prog 139 #[.agg #[.int .i64 L, .slice A1 l1.length c1, v], .bool false, .int .i64 x] w fun e w' => e = .returned (.bool (decide (x ∈ l1))) ∧ Below w.heap.size w w' := by
  have H := fun W h => Lib.hid (containsInt_c A1 c1 l1 x W (by omega) h)
  go_enter Tryz.func139, Tryz.ntmps139
  go_wp2_with (go_at_call 167; refine (H _ ((hs1.below ((by repeat (first | with_reducible exact Below.refl _ _ | with_reducible apply below_drewN' | with_reducible apply Below.drew | (with_reducible refine Below.alloc ?_ (by first | omega | (simp; omega) | simp | (have := (Below.refl _ _).size; omega) | (have := (Below.refl _ _).size; simp; omega)) _) | (with_reducible refine Below.setCell ?_ (by first | omega | (simp; omega) | simp | (have := (Below.refl _ _).size; omega) | (have := (Below.refl _ _).size; simp; omega)) _) | exact Below.refl _ _)))).more (by simp))).out.mono ?_; rintro e w1 ⟨rfl, rfl⟩)
  go_ret
  exact ⟨rfl, (by repeat (first | with_reducible exact Below.refl _ _ | with_reducible apply below_drewN' | with_reducible apply Below.drew | (with_reducible refine Below.alloc ?_ (by first | omega | (simp; omega) | simp | (have := (Below.refl _ _).size; omega) | (have := (Below.refl _ _).size; simp; omega)) _) | (with_reducible refine Below.setCell ?_ (by first | omega | (simp; omega) | simp | (have := (Below.refl _ _).size; omega) | (have := (Below.refl _ _).size; simp; omega)) _) | exact Below.refl _ _))⟩
theorem hasScaleSlide_c (L : Int) (v : Value) (A2 : Option Addr) (c2 : Nat) (l2 : List Int) (x : Int) (w : World) (h2 : l2.length ≤ 1048576) (hs2 : Sl w w.heap.size 1 A2 (l2.map ic)) :
    Calls Tryz.prog 139 #[.agg #[.int .i64 L, v, .slice A2 l2.length c2], .bool true, .int .i64 x] w fun e w' => e = .returned (.bool (decide (x ∈ l2))) ∧ Below w.heap.size w w' := by
  have H := fun W h => Lib.hid (containsInt_c A2 c2 l2 x W (by omega) h)
  go_enter Tryz.func139, Tryz.ntmps139
  go_wp2_with (go_at_call 167; refine (H _ ((hs2.below ((by repeat (first | with_reducible exact Below.refl _ _ | with_reducible apply below_drewN' | with_reducible apply Below.drew | (with_reducible refine Below.alloc ?_ (by first | omega | (simp; omega) | simp | (have := (Below.refl _ _).size; omega) | (have := (Below.refl _ _).size; simp; omega)) _) | (with_reducible refine Below.setCell ?_ (by first | omega | (simp; omega) | simp | (have := (Below.refl _ _).size; omega) | (have := (Below.refl _ _).size; simp; omega)) _) | exact Below.refl _ _)))).more (by simp))).out.mono ?_; rintro e w1 ⟨rfl, rfl⟩)
  go_ret
  exact ⟨rfl, (by repeat (first | with_reducible exact Below.refl _ _ | with_reducible apply below_drewN' | with_reducible apply Below.drew | (with_reducible refine Below.alloc ?_ (by first | omega | (simp; omega) | simp | (have := (Below.refl _ _).size; omega) | (have := (Below.refl _ _).size; simp; omega)) _) | (with_reducible refine Below.setCell ?_ (by first | omega | (simp; omega) | simp | (have := (Below.refl _ _).size; omega) | (have := (Below.refl _ _).size; simp; omega)) _) | exact Below.refl _ _))⟩
set_option maxRecDepth 100000 in
set_option maxHeartbeats 1000000 in
theorem checkPlan_c (L : Int) (A1 : Option Addr) (c1 : Nat) (l1 : List Int) (A2 : Option Addr) (c2 : Nat) (l2 : List Int) (A3 : Option Addr) (c3 : Nat) (l3 : List Term) (w : World) (h1 : l1.length ≤ 1048576) (h2 : l2.length ≤ 1048576) (h3 : l3.length ≤ 1048576) (k1 : l1.length ≤ c1) (k2 : l2.length ≤ c2)
    (hs1 : Sl w w.heap.size 1 A1 (l1.map ic)) (hs2 : Sl w w.heap.size 1 A2 (l2.map ic)) (hs3 : Sl w w.heap.size 3 A3 (l3.map Term.cells)) :
    Calls Tryz.prog 83 #[.agg #[.int .i64 L, .slice A1 l1.length c1, .slice A2 l2.length c2], .slice A3 l3.length c3] w fun e w' => e = .returned (.int .i64 (planCode L l1 l2 l3)) ∧ Below w.heap.size w w' := by
  have HR := fun W h h' => Lib.hid (implIsRule_c L A1 c1 l1 A2 c2 l2 W h1 h2 k1 k2 h h')
  have HC := fun W h => Lib.hid (implIsChain_c A3 c3 l3 W (by omega) h)
  have HA := fun W h => Lib.hid (hasScaleStock_c L A1 c1 l1 (.slice A2 l2.length c2) 0 W h1 h)
  have HB := fun W h => Lib.hid (hasScaleSlide_c L (.slice A1 l1.length c1) A2 c2 l2 0 W h2 h)
  have s1 := Lib.hid hs1
  have s2 := Lib.hid hs2
  have s3 := Lib.hid hs3
  clear hs1 hs2 hs3
  unfold planCode
  generalize ruleB L l1 l2 = a at *
  generalize chainB l3 = b at *
  generalize decide ((0 : Int) ∈ l1) = d at *
  generalize decide ((0 : Int) ∈ l2) = f at *
  have hW : Below w.heap.size w (w.alloc (.cells #[.int .i64 L, .slice A1 l1.length c1, .slice A2 l2.length c2] 26)) := (Below.refl _ _).alloc (Nat.le_refl _) _
  have hz : (w.alloc (.cells #[.int .i64 L, .slice A1 l1.length c1, .slice A2 l2.length c2] 26)).heap.size = w.heap.size + 1 := by simp
  have B0 := Blk.new w 26 #[.int .i64 L, .slice A1 l1.length c1, .slice A2 l2.length c2]
  go_enter Tryz.func83, Tryz.ntmps83
  go_wp2_with fail
  generalize w.alloc (.cells #[.int .i64 L, .slice A1 l1.length c1, .slice A2 l2.length c2] 26) = W at *
  have hWs := hW.size
  refine (HR _ ((s1.out.below hW).more hWs) ((s2.out.below hW).more hWs)).out.mono ?_; rintro e w1 ⟨rfl, hb1⟩
  have hW1 := hW.trans (hb1.mono hWs)
  have hWs1 := hW1.size
  have B1 := B0.below hb1 (by omega)
  cases a with
  | false =>
    go_wp2
    go_ret
    exact ⟨rfl, hW1⟩
  | true =>
    go_wp2_with fail
    refine (HC _ ((s3.out.below hW1).more hWs1)).out.mono ?_; rintro e w2 ⟨rfl, hb2⟩
    have hW2 := hW1.trans (hb2.mono hWs1)
    have hWs2 := hW2.size
    have B2 := B1.below hb2 B1.lt
    have y0 : w2.cell? ⟨w.heap.size, 0, none⟩ = some (.int .i64 L) := B2.cell 0
    have y1 : w2.cell? ⟨w.heap.size, 1, none⟩ = some (.slice A1 l1.length c1) := B2.cell 1
    have y2 : w2.cell? ⟨w.heap.size, 2, none⟩ = some (.slice A2 l2.length c2) := B2.cell 2
    cases b with
    | false =>
      go_wp2
      go_ret
      exact ⟨rfl, hW2⟩
    | true =>
      go_wp2_with fail
      refine (HA _ ((s1.out.below hW2).more hWs2)).out.mono ?_; rintro e w3 ⟨rfl, hb3⟩
      have hW3 := hW2.trans (hb3.mono hWs2)
      have hWs3 := hW3.size
      have B3 := B2.below hb3 B2.lt
      have z0 : w3.cell? ⟨w.heap.size, 0, none⟩ = some (.int .i64 L) := B3.cell 0
      have z1 : w3.cell? ⟨w.heap.size, 1, none⟩ = some (.slice A1 l1.length c1) := B3.cell 1
      have z2 : w3.cell? ⟨w.heap.size, 2, none⟩ = some (.slice A2 l2.length c2) := B3.cell 2
      cases d with
      | false =>
        go_wp2
        go_ret
        exact ⟨rfl, hW3⟩
      | true =>
        go_wp2_with fail
        refine (HB _ ((s2.out.below hW3).more hWs3)).out.mono ?_; rintro e w4 ⟨rfl, hb4⟩
        have hW4 := hW3.trans (hb4.mono hWs3)
        cases f
        all_goals
          go_wp2
          go_ret
          exact ⟨rfl, hW4⟩
set_option maxRecDepth 100000 in
set_option maxHeartbeats 1000000 in
theorem l14Code_c (L : Int) (A1 : Option Addr) (c1 : Nat) (l1 : List Int) (A2 : Option Addr) (c2 : Nat) (l2 : List Int) (A3 : Option Addr) (c3 : Nat) (l3 : List Term) (w : World) (h1 : l1.length ≤ 1048576) (h2 : l2.length ≤ 1048576) (h3 : l3.length ≤ 1048576) (k1 : l1.length ≤ c1) (k2 : l2.length ≤ c2)
    (hs1 : Sl w w.heap.size 1 A1 (l1.map ic)) (hs2 : Sl w w.heap.size 1 A2 (l2.map ic)) (hs3 : Sl w w.heap.size 3 A3 (l3.map Term.cells)) :
    Calls Tryz.prog 124 #[.agg #[.int .i64 L, .slice A1 l1.length c1, .slice A2 l2.length c2], .slice A3 l3.length c3] w fun e w' => e = .returned (.int .i64 (planCode L l1 l2 l3)) ∧ Below w.heap.size w w' := by
  have HR := fun W h h' => Lib.hid (specIsRule_c L A1 c1 l1 A2 c2 l2 W h1 h2 k1 k2 h h')
  have HC := fun W h => Lib.hid (specIsChain_c A3 c3 l3 W (by omega) h)
  have HA := fun W h => Lib.hid (l01Has_c A1 c1 l1 0 W (by omega) h)
  have HB := fun W h => Lib.hid (l01Has_c A2 c2 l2 0 W (by omega) h)
  have s1 := Lib.hid hs1
  have s2 := Lib.hid hs2
  have s3 := Lib.hid hs3
  clear hs1 hs2 hs3
  unfold planCode
  generalize ruleB L l1 l2 = a at *
  generalize chainB l3 = b at *
  generalize decide ((0 : Int) ∈ l1) = d at *
  generalize decide ((0 : Int) ∈ l2) = f at *
  have hW : Below w.heap.size w (w.alloc (.cells #[.int .i64 L, .slice A1 l1.length c1, .slice A2 l2.length c2] 26)) := (Below.refl _ _).alloc (Nat.le_refl _) _
  have hz : (w.alloc (.cells #[.int .i64 L, .slice A1 l1.length c1, .slice A2 l2.length c2] 26)).heap.size = w.heap.size + 1 := by simp
  have B0 := Blk.new w 26 #[.int .i64 L, .slice A1 l1.length c1, .slice A2 l2.length c2]
  go_enter Tryz.func124, Tryz.ntmps124
  go_wp2_with fail
  generalize w.alloc (.cells #[.int .i64 L, .slice A1 l1.length c1, .slice A2 l2.length c2] 26) = W at *
  have hWs := hW.size
  refine (HR _ ((s1.out.below hW).more hWs) ((s2.out.below hW).more hWs)).out.mono ?_; rintro e w1 ⟨rfl, hb1⟩
  have hW1 := hW.trans (hb1.mono hWs)
  have hWs1 := hW1.size
  have B1 := B0.below hb1 (by omega)
  cases a with
  | false =>
    go_wp2
    go_ret
    exact ⟨rfl, hW1⟩
  | true =>
    go_wp2_with fail
    refine (HC _ ((s3.out.below hW1).more hWs1)).out.mono ?_; rintro e w2 ⟨rfl, hb2⟩
    have hW2 := hW1.trans (hb2.mono hWs1)
    have hWs2 := hW2.size
    have B2 := B1.below hb2 B1.lt
    have y0 : w2.cell? ⟨w.heap.size, 0, none⟩ = some (.int .i64 L) := B2.cell 0
    have y1 : w2.cell? ⟨w.heap.size, 1, none⟩ = some (.slice A1 l1.length c1) := B2.cell 1
    have y2 : w2.cell? ⟨w.heap.size, 2, none⟩ = some (.slice A2 l2.length c2) := B2.cell 2
    cases b with
    | false =>
      go_wp2
      go_ret
      exact ⟨rfl, hW2⟩
    | true =>
      go_wp2_with fail
      refine (HA _ ((s1.out.below hW2).more hWs2)).out.mono ?_; rintro e w3 ⟨rfl, rfl⟩
      have hb3 := Below.refl w2.heap.size w2
      have hW3 := hW2.trans (hb3.mono hWs2)
      have hWs3 := hW3.size
      have B3 := B2.below hb3 B2.lt
      have z0 : w2.cell? ⟨w.heap.size, 0, none⟩ = some (.int .i64 L) := B3.cell 0
      have z1 : w2.cell? ⟨w.heap.size, 1, none⟩ = some (.slice A1 l1.length c1) := B3.cell 1
      have z2 : w2.cell? ⟨w.heap.size, 2, none⟩ = some (.slice A2 l2.length c2) := B3.cell 2
      cases d with
      | false =>
        go_wp2
        go_ret
        exact ⟨rfl, hW3⟩
      | true =>
        go_wp2_with fail
        refine (HB _ ((s2.out.below hW3).more hWs3)).out.mono ?_; rintro e w4 ⟨rfl, rfl⟩
        have hW4 := hW3
        cases f
        all_goals
          go_wp2
          go_ret
          exact ⟨rfl, hW4⟩
set_option maxRecDepth 100000 in
set_option maxHeartbeats 400000 in
theorem checkBound_c (L : Int) (A1 : Option Addr) (c1 : Nat) (l1 : List Int) (A2 : Option Addr) (c2 : Nat) (l2 : List Int) (A3 : Option Addr) (c3 : Nat) (l3 : List Term) (p q r : Int) (w : World) (h1 : l1.length ≤ 1048576) (h2 : l2.length ≤ 1048576) (h3 : l3.length ≤ 1048576) (k1 : l1.length ≤ c1) (k2 : l2.length ≤ c2)
    (hs1 : Sl w w.heap.size 1 A1 (l1.map ic)) (hs2 : Sl w w.heap.size 1 A2 (l2.map ic)) (hs3 : Sl w w.heap.size 3 A3 (l3.map Term.cells)) :
    Calls Tryz.prog 122 #[.agg #[.int .i64 L, .slice A1 l1.length c1, .slice A2 l2.length c2], .slice A3 l3.length c3, .agg #[.int .i64 p, .int .i64 q, .int .i64 r]] w fun e w' => e = .returned (.int .i64 (boundCode L l1 l2 l3 p q r)) ∧ Below w.heap.size w w' := by
  have HE := fun W => Lib.hid (implAreErrors_c p q r W)
  have HP := fun W h h' h'' => Lib.hid (checkPlan_c L A1 c1 l1 A2 c2 l2 A3 c3 l3 W h1 h2 h3 k1 k2 h h' h'')
  have s1 := Lib.hid hs1
  have s2 := Lib.hid hs2
  have s3 := Lib.hid hs3
  clear hs1 hs2 hs3
  unfold boundCode
  generalize errorsB p q r = a at *
  generalize planCode L l1 l2 l3 = b at *
  go_enter Tryz.func122, Tryz.ntmps122
  go_wp2_with fail
  refine (HE _).out.mono ?_; rintro e w1 ⟨rfl, hb1⟩
  have hW1 : Below w.heap.size w w1 := Below.trans ((by repeat (first | with_reducible exact Below.refl _ _ | with_reducible apply below_drewN' | with_reducible apply Below.drew | (with_reducible refine Below.alloc ?_ (by first | omega | (simp; omega) | simp | (have := (Below.refl _ _).size; omega) | (have := (Below.refl _ _).size; simp; omega)) _) | (with_reducible refine Below.setCell ?_ (by first | omega | (simp; omega) | simp | (have := (Below.refl _ _).size; omega) | (have := (Below.refl _ _).size; simp; omega)) _) | exact Below.refl _ _))) (hb1.mono (by simp <;> omega))
  have B1 := ((Blk.new w 26 #[.int .i64 L, .slice A1 l1.length c1, .slice A2 l2.length c2]).alloc (.cells #[.int .i64 p, .int .i64 q, .int .i64 r] 29)).below hb1 (by simp <;> omega)
  have y0 : w1.cell? ⟨w.heap.size, 0, none⟩ = some (.int .i64 L) := B1.cell 0
  have y1 : w1.cell? ⟨w.heap.size, 1, none⟩ = some (.slice A1 l1.length c1) := B1.cell 1
  have y2 : w1.cell? ⟨w.heap.size, 2, none⟩ = some (.slice A2 l2.length c2) := B1.cell 2
  have hWs := hW1.size
  cases a with
  | false =>
    go_wp2
    go_ret
    exact ⟨rfl, hW1⟩
  | true =>
    go_wp2_with fail
    refine (HP _ ((s1.out.below hW1).more hWs) ((s2.out.below hW1).more hWs) ((s3.out.below hW1).more hWs)).out.mono ?_; rintro e w2 ⟨rfl, hb2⟩
    go_wp2
    go_ret
    exact ⟨rfl, hW1.trans (hb2.mono hWs)⟩
set_option maxRecDepth 100000 in
set_option maxHeartbeats 400000 in
theorem l15Code_c (L : Int) (A1 : Option Addr) (c1 : Nat) (l1 : List Int) (A2 : Option Addr) (c2 : Nat) (l2 : List Int) (A3 : Option Addr) (c3 : Nat) (l3 : List Term) (p q r : Int) (w : World) (h1 : l1.length ≤ 1048576) (h2 : l2.length ≤ 1048576) (h3 : l3.length ≤ 1048576) (k1 : l1.length ≤ c1) (k2 : l2.length ≤ c2)
    (hs1 : Sl w w.heap.size 1 A1 (l1.map ic)) (hs2 : Sl w w.heap.size 1 A2 (l2.map ic)) (hs3 : Sl w w.heap.size 3 A3 (l3.map Term.cells)) :
    Calls Tryz.prog 136 #[.agg #[.int .i64 L, .slice A1 l1.length c1, .slice A2 l2.length c2], .slice A3 l3.length c3, .agg #[.int .i64 p, .int .i64 q, .int .i64 r]] w fun e w' => e = .returned (.int .i64 (boundCode L l1 l2 l3 p q r)) ∧ Below w.heap.size w w' := by
  have HE := fun W => Lib.hid (specAreErrors_c p q r W)
  have HP := fun W h h' h'' => Lib.hid (l14Code_c L A1 c1 l1 A2 c2 l2 A3 c3 l3 W h1 h2 h3 k1 k2 h h' h'')
  have s1 := Lib.hid hs1
  have s2 := Lib.hid hs2
  have s3 := Lib.hid hs3
  clear hs1 hs2 hs3
  unfold boundCode
  generalize errorsB p q r = a at *
  generalize planCode L l1 l2 l3 = b at *
  go_enter Tryz.func136, Tryz.ntmps136
  go_wp2_with fail
  refine (HE _).out.mono ?_; rintro e w1 ⟨rfl, hb1⟩
  have hW1 : Below w.heap.size w w1 := Below.trans ((by repeat (first | with_reducible exact Below.refl _ _ | with_reducible apply below_drewN' | with_reducible apply Below.drew | (with_reducible refine Below.alloc ?_ (by first | omega | (simp; omega) | simp | (have := (Below.refl _ _).size; omega) | (have := (Below.refl _ _).size; simp; omega)) _) | (with_reducible refine Below.setCell ?_ (by first | omega | (simp; omega) | simp | (have := (Below.refl _ _).size; omega) | (have := (Below.refl _ _).size; simp; omega)) _) | exact Below.refl _ _))) (hb1.mono (by simp <;> omega))
  have B1 := ((Blk.new w 26 #[.int .i64 L, .slice A1 l1.length c1, .slice A2 l2.length c2]).alloc (.cells #[.int .i64 p, .int .i64 q, .int .i64 r] 29)).below hb1 (by simp <;> omega)
  have y0 : w1.cell? ⟨w.heap.size, 0, none⟩ = some (.int .i64 L) := B1.cell 0
  have y1 : w1.cell? ⟨w.heap.size, 1, none⟩ = some (.slice A1 l1.length c1) := B1.cell 1
  have y2 : w1.cell? ⟨w.heap.size, 2, none⟩ = some (.slice A2 l2.length c2) := B1.cell 2
  have hWs := hW1.size
  cases a with
  | false =>
    go_wp2
    go_ret
    exact ⟨rfl, hW1⟩
  | true =>
    go_wp2_with fail
    refine (HP _ ((s1.out.below hW1).more hWs) ((s2.out.below hW1).more hWs) ((s3.out.below hW1).more hWs)).out.mono ?_; rintro e w2 ⟨rfl, hb2⟩
    go_wp2
    go_ret
    exact ⟨rfl, hW1.trans (hb2.mono hWs)⟩
end Go.Proofs.YtednjmldjbndhaaGreat
