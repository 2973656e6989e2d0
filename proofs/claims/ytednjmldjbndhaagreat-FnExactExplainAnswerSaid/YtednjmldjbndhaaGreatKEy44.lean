/- The law on ExplainAnswer: walked. Conditions: what an argument always is. -/
import Derived.Test.YtednjmldjbndhaaGreatKEy27
import Derived.Test.YtednjmldjbndhaaGreatKEy43
set_option linter.unusedSimpArgs false
set_option linter.unusedVariables false
namespace Go.Proofs.YtednjmldjbndhaaGreat
open Go.RowKit
set_option maxRecDepth 100000 in
set_option maxHeartbeats 4000000 in
theorem lawExplainAnswer_c (L : Int) (A1 : Option Addr) (c1 : Nat) (l1 : List Int) (A2 : Option Addr) (c2 : Nat) (l2 : List Int) (A3 : Option Addr) (c3 : Nat) (l3 : List Term) (p q r : Int) (A : Option Addr) (c : Nat) (l : List Move) (a b : Int) (w : World) (X : ExLaid w A1 c1 l1 A2 c2 l2 A3 c3 l3) (Y : AnLaid w A c l) :
    Calls Tryz.prog 4 #[.agg #[.int .i64 L, .slice A1 l1.length c1, .slice A2 l2.length c2, .slice A3 l3.length c3, .int .i64 p, .int .i64 q, .int .i64 r], .agg #[.slice A l.length c, .int .i64 a, .int .i64 b]] w fun e w' => e = .returned (.bool true) ∧ Below w.heap.size w w' := by
  have HZ := fun W => Lib.hid (szExercise_c L A1 l1.length c1 A2 l2.length c2 A3 l3.length c3 p q r 1048576 W X.z1 X.z2 X.z3 (by omega))
  have HZA := fun left W (h : 0 ≤ left ∧ left ≤ 1048576) => Lib.hid (szAn_c A l.length c a b left W Y.z h)
  have hW : Below w.heap.size w ((w.alloc (.cells #[.int .i64 L, .slice A1 l1.length c1, .slice A2 l2.length c2, .slice A3 l3.length c3, .int .i64 p, .int .i64 q, .int .i64 r] 58)).alloc (.cells #[.slice A l.length c, .int .i64 a, .int .i64 b] 62)) := (by repeat (first | with_reducible exact Below.refl _ _ | with_reducible apply below_drewN' | with_reducible apply Below.drew | (with_reducible refine Below.alloc ?_ (by first | omega | (simp; omega) | simp | (have := (Below.refl _ _).size; omega) | (have := (Below.refl _ _).size; simp; omega)) _) | (with_reducible refine Below.setCell ?_ (by first | omega | (simp; omega) | simp | (have := (Below.refl _ _).size; omega) | (have := (Below.refl _ _).size; simp; omega)) _) | exact Below.refl _ _))
  have X0 := (Blk.new w 58 #[.int .i64 L, .slice A1 l1.length c1, .slice A2 l2.length c2, .slice A3 l3.length c3, .int .i64 p, .int .i64 q, .int .i64 r]).alloc (.cells #[.slice A l.length c, .int .i64 a, .int .i64 b] 62)
  have Y0 := Blk.new' (w.alloc (.cells #[.int .i64 L, .slice A1 l1.length c1, .slice A2 l2.length c2, .slice A3 l3.length c3, .int .i64 p, .int .i64 q, .int .i64 r] 58)) 62 #[.slice A l.length c, .int .i64 a, .int .i64 b] (g := w.heap.size + 1) (by simp)
  have X := Lib.hid X
  have Y := Lib.hid Y
  go_enter Tryz.func4, Tryz.ntmps4
  go_wp2_with fail
  generalize ((w.alloc (.cells #[.int .i64 L, .slice A1 l1.length c1, .slice A2 l2.length c2, .slice A3 l3.length c3, .int .i64 p, .int .i64 q, .int .i64 r] 58)).alloc (.cells #[.slice A l.length c, .int .i64 a, .int .i64 b] 62)) = W at *
  refine Calls.mono (HZ W).out ?_; rintro e w1 ⟨⟨v, rfl, hv⟩, hb1⟩
  have hW1 := hW.trans (hb1.mono hW.size)
  have X1 := X0.below hb1 X0.lt
  have Y1 := Y0.below hb1 Y0.lt
  clear hW X0 Y0 hb1 HZ
  rcases hv with hv | ⟨hv0, hv1, hlen⟩
  · go_wp2
    go_ret
    exact ⟨rfl, (by repeat (first | with_reducible exact hW1 | with_reducible apply below_drewN' | with_reducible apply Below.drew | (with_reducible refine Below.alloc ?_ (by first | omega | (simp; omega) | simp | (have := (hW1).size; omega) | (have := (hW1).size; simp; omega)) _) | (with_reducible refine Below.setCell ?_ (by first | omega | (simp; omega) | simp | (have := (hW1).size; omega) | (have := (hW1).size; simp; omega)) _) | exact hW1))⟩
  have hvn : ¬ v < 0 := by omega
  have E := Lib.hid (X.out.ex hlen)
  have HZA := HZA v w1 ⟨hv0, hv1⟩
  clear X hlen
  have z0 : w1.cell? ⟨w.heap.size + 1, 0, none⟩ = some (.slice A l.length c) := Y1.cell 0
  have z1 : w1.cell? ⟨w.heap.size + 1, 1, none⟩ = some (.int .i64 a) := Y1.cell 1
  have z2 : w1.cell? ⟨w.heap.size + 1, 2, none⟩ = some (.int .i64 b) := Y1.cell 2
  go_wp2_with fail
  refine Calls.mono HZA.out ?_; rintro e w2 ⟨⟨v', rfl, hv'⟩, hb2⟩
  have hW2 := hW1.trans (hb2.mono hW1.size)
  have X2 := X1.below hb2 X1.lt
  have Y2 := Y1.below hb2 Y1.lt
  clear z0 z1 z2 hW1 X1 Y1 hb2 HZA
  rcases hv' with hv' | ⟨hv0', hv1', hlen⟩
  · go_wp2
    go_ret
    exact ⟨rfl, (by repeat (first | with_reducible exact hW2 | with_reducible apply below_drewN' | with_reducible apply Below.drew | (with_reducible refine Below.alloc ?_ (by first | omega | (simp; omega) | simp | (have := (hW2).size; omega) | (have := (hW2).size; simp; omega)) _) | (with_reducible refine Below.setCell ?_ (by first | omega | (simp; omega) | simp | (have := (hW2).size; omega) | (have := (hW2).size; simp; omega)) _) | exact hW2))⟩
  have hvn' : ¬ v' < 0 := by omega
  have F : Hid (AnIn w A c l) := ⟨hlen, Y.out.k, Y.out.s⟩
  clear Y hlen
  have HT := fun (W : World) (hW : Below w.heap.size w W) => Lib.hid (toEx_c L A1 c1 l1 A2 c2 l2 A3 c3 l3 p q r W (E.out.later hW))
  unfold exAgg at HT
  have HT := Lib.hid HT
  have HU := fun (W : World) (hW : Below w.heap.size w W) => Lib.hid (toAn_c A c l a b W (F.out.later hW))
  have HU := Lib.hid HU
  have HSp := fun (B1 : Option Addr) d1 B2 d2 B3 d3 B d W (E' : ExIn W B1 d1 l1 B2 d2 l2 B3 d3 l3) (F' : AnIn W B d l) => Lib.hid (specExplain_c L B1 d1 l1 B2 d2 l2 B3 d3 l3 p q r B d l a b W E' F')
  have HIm := fun (B1 : Option Addr) d1 B2 d2 B3 d3 B d W (E' : ExIn W B1 d1 l1 B2 d2 l2 B3 d3 l3) (F' : AnIn W B d l) => Lib.hid (implExplain_c L B1 d1 l1 B2 d2 l2 B3 d3 l3 p q r B d l a b W E' F')
  unfold expV at HSp
  have HSp := Lib.hid HSp
  unfold expV at HIm
  have HIm := Lib.hid HIm
  generalize expW (exB L l1 l2 l3 p q r && ansB l a b) (planB l1 l2 l3 l) (gradeP L l1 l2 l3 p q r ⟨a, b⟩) (decide ((runR l1 l2 (0, 0) l).2 = l.length)) = g0 at *
  generalize expC (exB L l1 l2 l3 p q r && ansB l a b) = g1 at *
  have hgg : (g0.toList == g0.toList) = true := by simp
  go_wp2_with fail
  refine wp_region_all (fun a0 fL bA v => ∃ v23 v24 v25 v26 v27 v22 v28 v29 v6 v7 : Value, bA = (((((((((a0.put (some 23) v23).put (some 24) v24).put (some 25) v25).put (some 26) v26).put (some 27) v27).put (some 22) v22).put (some 28) v28).put (some 29) v29).put (some 6) v6).put (some 7) v7 ∧ (TwS w2 (fL 1) (fL 3) (fun x v => ExCopy L l1 l2 l3 p q r x v w2.heap.size) (fun x v => AnCopy l a b x v w2.heap.size) v24 v26 v) ∧ (fL 0 = true → v23 = .agg #[.int .i64 L, .slice A1 l1.length c1, .slice A2 l2.length c2, .slice A3 l3.length c3, .int .i64 p, .int .i64 q, .int .i64 r]) ∧ (fL 1 = true → True) ∧ (fL 2 = true → v25 = .agg #[.slice A l.length c, .int .i64 a, .int .i64 b]) ∧ (fL 3 = true → True) ∧ (fL 4 = true → v27 = .tuple #[.string g0, .int .i64 g1]) ∧ (fL 5 = true → v22 = .tuple #[.string g0, .int .i64 g1]) ∧ (fL 6 = true → v28 = .string g0) ∧ (fL 7 = true → v29 = .int .i64 g1) ∧ (fL 8 = true → v6 = .string g0) ∧ (fL 9 = true → v7 = .int .i64 g1)) (by kernel_rfl) (by decide +kernel) ?_ ?_ ?_
  · exact ⟨undef, undef, undef, undef, undef, undef, undef, undef, undef, undef, by simp only [Act.put, List.setIfInBounds_toArray, List.set_cons_zero, List.set_cons_succ], ⟨(Below.refl _ _).drew, nofun, nofun⟩, nofun, nofun, nofun, nofun, nofun, nofun, nofun, nofun, nofun, nofun⟩
  · rintro fL bA v ⟨v23, v24, v25, v26, v27, v22, v28, v29, v6, v7, rfl, hS, q0, q1, q2, q3, q4, q5, q6, q7, q8, q9⟩ i hi hf o ho hall
    simp only [Act.put, List.setIfInBounds_toArray, List.set_cons_zero, List.set_cons_succ]
    simp only [List.length_cons, List.length_nil] at hi
    have hn : i = 0 ∨ i = 1 ∨ i = 2 ∨ i = 3 ∨ i = 4 ∨ i = 5 ∨ i = 6 ∨ i = 7 ∨ i = 8 ∨ i = 9 := by omega
    clear hi
    rcases hn with rfl | rfl | rfl | rfl | rfl | rfl | rfl | rfl | rfl | rfl
    · obtain rfl := Option.some.inj ho
      have FF := X2.below hS.hb X2.lt
      have y0 : v.cell? ⟨w.heap.size, 0, none⟩ = some (.int .i64 L) := FF.cell 0
      have y1 : v.cell? ⟨w.heap.size, 1, none⟩ = some (.slice A1 l1.length c1) := FF.cell 1
      have y2 : v.cell? ⟨w.heap.size, 2, none⟩ = some (.slice A2 l2.length c2) := FF.cell 2
      have y3 : v.cell? ⟨w.heap.size, 3, none⟩ = some (.slice A3 l3.length c3) := FF.cell 3
      have y4 : v.cell? ⟨w.heap.size, 4, none⟩ = some (.int .i64 p) := FF.cell 4
      have y5 : v.cell? ⟨w.heap.size, 5, none⟩ = some (.int .i64 q) := FF.cell 5
      have y6 : v.cell? ⟨w.heap.size, 6, none⟩ = some (.int .i64 r) := FF.cell 6
      clear hall ho
      refine wpOp_step rfl (fun K hK => ?_)
      go_simp
      exact hK _ _ ⟨_, _, _, _, _, _, _, _, _, _, rfl, hS, fun _ => rfl, fun _ => trivial, q2, fun _ => trivial, q4, q5, q6, q7, q8, q9⟩
    · obtain rfl := Option.some.inj ho
      obtain rfl := q0 (hall ⟨0, .data⟩ (by simp) rfl)
      clear hall ho
      refine wpOp_step rfl (fun K hK => ?_)
      go_simp
      refine Calls.mono (HT.out v (hW2.trans (hS.hb.mono hW2.size))).out ?_; rintro e w7 ⟨⟨u, rfl, hu⟩, hb7⟩
      go_simp
      exact hK _ _ ⟨_, _, _, _, _, _, _, _, _, _, rfl, ⟨hS.hb.trans (hb7.mono hS.hb.size), fun _ => hu.weak hS.hb.size, fun e => (hS.q2 e).below hb7⟩, fun _ => rfl, fun _ => trivial, q2, fun _ => trivial, q4, q5, q6, q7, q8, q9⟩
    · obtain rfl := Option.some.inj ho
      have FF := Y2.below hS.hb Y2.lt
      have z0 : v.cell? ⟨w.heap.size + 1, 0, none⟩ = some (.slice A l.length c) := FF.cell 0
      have z1 : v.cell? ⟨w.heap.size + 1, 1, none⟩ = some (.int .i64 a) := FF.cell 1
      have z2 : v.cell? ⟨w.heap.size + 1, 2, none⟩ = some (.int .i64 b) := FF.cell 2
      clear hall ho
      refine wpOp_step rfl (fun K hK => ?_)
      go_simp
      exact hK _ _ ⟨_, _, _, _, _, _, _, _, _, _, rfl, hS, q0, fun _ => trivial, fun _ => rfl, fun _ => trivial, q4, q5, q6, q7, q8, q9⟩
    · obtain rfl := Option.some.inj ho
      obtain rfl := q2 (hall ⟨2, .data⟩ (by simp) rfl)
      clear hall ho
      refine wpOp_step rfl (fun K hK => ?_)
      go_simp
      refine Calls.mono (HU.out v (hW2.trans (hS.hb.mono hW2.size))).out ?_; rintro e w7 ⟨⟨u, rfl, hu⟩, hb7⟩
      go_simp
      exact hK _ _ ⟨_, _, _, _, _, _, _, _, _, _, rfl, ⟨hS.hb.trans (hb7.mono hS.hb.size), fun e => (hS.q1 e).below hb7, fun _ => hu.weak hS.hb.size⟩, q0, fun _ => trivial, fun _ => rfl, fun _ => trivial, q4, q5, q6, q7, q8, q9⟩
    · obtain rfl := Option.some.inj ho
      have e1 : fL 1 = true := hall ⟨1, .data⟩ (by simp) rfl
      have e3 : fL 3 = true := hall ⟨3, .data⟩ (by simp) rfl
      clear hall ho
      refine wpOp_step rfl (fun K hK => ?_)
      obtain ⟨H1, h1, H2, h2, H3, h3, rfl, EH, _, _, _⟩ := hS.q1 e1
      obtain ⟨H, h, rfl, FH, _⟩ := hS.q2 e3
      unfold exAgg
      go_simp
      refine Calls.mono (HSp.out H1 h1 H2 h2 H3 h3 H h v EH FH).out ?_; rintro e w7 ⟨rfl, hb7⟩
      go_simp
      exact hK _ _ ⟨_, _, _, _, _, _, _, _, _, _, rfl, ⟨hS.hb.trans (hb7.mono hS.hb.size), fun e => (hS.q1 e).below hb7, fun e => (hS.q2 e).below hb7⟩, q0, fun _ => trivial, q2, fun _ => trivial, fun _ => rfl, q5, q6, q7, q8, q9⟩
    · obtain rfl := Option.some.inj ho
      obtain rfl := q4 (hall ⟨4, .data⟩ (by simp) rfl)
      clear hall ho
      refine wpOp_step rfl (fun K hK => ?_)
      go_simp
      exact hK _ _ ⟨_, _, _, _, _, _, _, _, _, _, rfl, hS, q0, fun _ => trivial, q2, fun _ => trivial, fun _ => rfl, fun _ => rfl, q6, q7, q8, q9⟩
    · obtain rfl := Option.some.inj ho
      obtain rfl := q5 (hall ⟨5, .data⟩ (by simp) rfl)
      clear hall ho
      refine wpOp_step rfl (fun K hK => ?_)
      go_simp
      exact hK _ _ ⟨_, _, _, _, _, _, _, _, _, _, rfl, hS, q0, fun _ => trivial, q2, fun _ => trivial, q4, fun _ => rfl, fun _ => rfl, q7, q8, q9⟩
    · obtain rfl := Option.some.inj ho
      obtain rfl := q5 (hall ⟨5, .data⟩ (by simp) rfl)
      clear hall ho
      refine wpOp_step rfl (fun K hK => ?_)
      go_simp
      exact hK _ _ ⟨_, _, _, _, _, _, _, _, _, _, rfl, hS, q0, fun _ => trivial, q2, fun _ => trivial, q4, fun _ => rfl, q6, fun _ => rfl, q8, q9⟩
    · obtain rfl := Option.some.inj ho
      obtain rfl := q6 (hall ⟨6, .data⟩ (by simp) rfl)
      clear hall ho
      refine wpOp_step rfl (fun K hK => ?_)
      go_simp
      exact hK _ _ ⟨_, _, _, _, _, _, _, _, _, _, rfl, hS, q0, fun _ => trivial, q2, fun _ => trivial, q4, q5, fun _ => rfl, q7, fun _ => rfl, q9⟩
    · obtain rfl := Option.some.inj ho
      obtain rfl := q7 (hall ⟨7, .data⟩ (by simp) rfl)
      clear hall ho
      refine wpOp_step rfl (fun K hK => ?_)
      go_simp
      exact hK _ _ ⟨_, _, _, _, _, _, _, _, _, _, rfl, hS, q0, fun _ => trivial, q2, fun _ => trivial, q4, q5, q6, fun _ => rfl, q8, fun _ => rfl⟩
  · rintro fL bA v ⟨v23, v24, v25, v26, v27, v22, v28, v29, v6, v7, rfl, hS, q0, q1, q2, q3, q4, q5, q6, q7, q8, q9⟩ hall
    simp only [Act.put, List.setIfInBounds_toArray, List.set_cons_zero, List.set_cons_succ]
    simp only [List.length_cons, List.length_nil] at hall
    obtain rfl := q0 (hall 0 (by omega))
    have e1 : fL 1 = true := hall 1 (by omega)
    obtain rfl := q2 (hall 2 (by omega))
    have e3 : fL 3 = true := hall 3 (by omega)
    obtain rfl := q4 (hall 4 (by omega))
    obtain rfl := q5 (hall 5 (by omega))
    obtain rfl := q6 (hall 6 (by omega))
    obtain rfl := q7 (hall 7 (by omega))
    obtain rfl := q8 (hall 8 (by omega))
    obtain rfl := q9 (hall 9 (by omega))
    clear hall
    have hW3 := hW2.trans (hS.hb.mono hW2.size)
    have X3 := X2.below hS.hb X2.lt
    have Y3 := Y2.below hS.hb Y2.lt
    clear hS HSp hW2 X2 Y2
    have y0 : v.cell? ⟨w.heap.size, 0, none⟩ = some (.int .i64 L) := X3.cell 0
    have y1 : v.cell? ⟨w.heap.size, 1, none⟩ = some (.slice A1 l1.length c1) := X3.cell 1
    have y2 : v.cell? ⟨w.heap.size, 2, none⟩ = some (.slice A2 l2.length c2) := X3.cell 2
    have y3 : v.cell? ⟨w.heap.size, 3, none⟩ = some (.slice A3 l3.length c3) := X3.cell 3
    have y4 : v.cell? ⟨w.heap.size, 4, none⟩ = some (.int .i64 p) := X3.cell 4
    have y5 : v.cell? ⟨w.heap.size, 5, none⟩ = some (.int .i64 q) := X3.cell 5
    have y6 : v.cell? ⟨w.heap.size, 6, none⟩ = some (.int .i64 r) := X3.cell 6
    go_wp2_with fail
    refine Calls.mono (HT.out v hW3).out ?_; rintro e w4 ⟨⟨v4, rfl, G1, k1, G2, k2, G3, k3, rfl, E4, _, _, _⟩, hb4⟩
    have hW4 := hW3.trans (hb4.mono hW3.size)
    have X4 := X3.below hb4 X3.lt
    have Y4 := Y3.below hb4 Y3.lt
    clear y0 y1 y2 y3 y4 y5 y6 hb4 X3 Y3 hW3
    unfold exAgg
    have hba : Below w4.heap.size w4 (w4.alloc (.cells #[.int .i64 L, .slice G1 l1.length k1, .slice G2 l2.length k2, .slice G3 l3.length k3, .int .i64 p, .int .i64 q, .int .i64 r] 31)) := (Below.refl _ _).alloc (Nat.le_refl _) _
    have E7 := E4.later hba
    have X7 := X4.below hba X4.lt
    have Y7 := Y4.below hba Y4.lt
    have K7 := Blk.new w4 31 #[.int .i64 L, .slice G1 l1.length k1, .slice G2 l2.length k2, .slice G3 l3.length k3, .int .i64 p, .int .i64 q, .int .i64 r]
    have hW7 := hW4.trans (hba.mono hW4.size)
    have z0 : (w4.alloc (.cells #[.int .i64 L, .slice G1 l1.length k1, .slice G2 l2.length k2, .slice G3 l3.length k3, .int .i64 p, .int .i64 q, .int .i64 r] 31)).cell? ⟨w.heap.size + 1, 0, none⟩ = some (.slice A l.length c) := Y7.cell 0
    have z1 : (w4.alloc (.cells #[.int .i64 L, .slice G1 l1.length k1, .slice G2 l2.length k2, .slice G3 l3.length k3, .int .i64 p, .int .i64 q, .int .i64 r] 31)).cell? ⟨w.heap.size + 1, 1, none⟩ = some (.int .i64 a) := Y7.cell 1
    have z2 : (w4.alloc (.cells #[.int .i64 L, .slice G1 l1.length k1, .slice G2 l2.length k2, .slice G3 l3.length k3, .int .i64 p, .int .i64 q, .int .i64 r] 31)).cell? ⟨w.heap.size + 1, 2, none⟩ = some (.int .i64 b) := Y7.cell 2
    clear E4 X4 Y4 hW4 hba
    go_wp2_with fail
    generalize w4.alloc (.cells #[.int .i64 L, .slice G1 l1.length k1, .slice G2 l2.length k2, .slice G3 l3.length k3, .int .i64 p, .int .i64 q, .int .i64 r] 31) = w7 at *
    generalize w4.heap.size = gx at *
    refine Calls.mono (HU.out w7 hW7).out ?_; rintro e w8 ⟨⟨v8, rfl, H, h, rfl, F8, _⟩, hb8⟩
    have hW8 := hW7.trans (hb8.mono hW7.size)
    have X8 := X7.below hb8 X7.lt
    have Y8 := Y7.below hb8 Y7.lt
    have K8 := K7.below hb8 K7.lt
    have E8 := E7.later hb8
    clear z0 z1 z2 hW7 X7 Y7 K7 E7 hb8
    have hbc : Below w8.heap.size w8 (w8.alloc (.cells #[.slice H l.length h, .int .i64 a, .int .i64 b] 53)) := (Below.refl _ _).alloc (Nat.le_refl _) _
    have hcall := HIm.out G1 k1 G2 k2 G3 k3 H h _ (E8.later hbc) (F8.later hbc)
    have K9 := K8.below hbc K8.lt
    have y0 : (w8.alloc (.cells #[.slice H l.length h, .int .i64 a, .int .i64 b] 53)).cell? ⟨gx, 0, none⟩ = some (.int .i64 L) := K9.cell 0
    have y1 : (w8.alloc (.cells #[.slice H l.length h, .int .i64 a, .int .i64 b] 53)).cell? ⟨gx, 1, none⟩ = some (.slice G1 l1.length k1) := K9.cell 1
    have y2 : (w8.alloc (.cells #[.slice H l.length h, .int .i64 a, .int .i64 b] 53)).cell? ⟨gx, 2, none⟩ = some (.slice G2 l2.length k2) := K9.cell 2
    have y3 : (w8.alloc (.cells #[.slice H l.length h, .int .i64 a, .int .i64 b] 53)).cell? ⟨gx, 3, none⟩ = some (.slice G3 l3.length k3) := K9.cell 3
    have y4 : (w8.alloc (.cells #[.slice H l.length h, .int .i64 a, .int .i64 b] 53)).cell? ⟨gx, 4, none⟩ = some (.int .i64 p) := K9.cell 4
    have y5 : (w8.alloc (.cells #[.slice H l.length h, .int .i64 a, .int .i64 b] 53)).cell? ⟨gx, 5, none⟩ = some (.int .i64 q) := K9.cell 5
    have y6 : (w8.alloc (.cells #[.slice H l.length h, .int .i64 a, .int .i64 b] 53)).cell? ⟨gx, 6, none⟩ = some (.int .i64 r) := K9.cell 6
    go_wp2_with fail
    have E9 := E8.later hbc
    have F9 := F8.later hbc
    have X9 := X8.below hbc X8.lt
    have Y9 := Y8.below hbc Y8.lt
    have M9 := Blk.new w8 53 #[.slice H l.length h, .int .i64 a, .int .i64 b]
    have hW9 := hW8.trans (hbc.mono hW8.size)
    clear y0 y1 y2 y3 y4 y5 y6 E8 F8 X8 Y8 K8 hW8 hbc
    generalize w8.alloc (.cells #[.slice H l.length h, .int .i64 a, .int .i64 b] 53) = w9 at *
    generalize w8.heap.size = ga at *
    refine Calls.mono hcall.out ?_; rintro e w10 ⟨rfl, hb10⟩
    have E10 := Lib.hid (E9.later hb10)
    have F10 := Lib.hid (F9.later hb10)
    have X10 := X9.below hb10 X9.lt
    have Y10 := Y9.below hb10 Y9.lt
    have K10 := K9.below hb10 K9.lt
    have M10 := M9.below hb10 M9.lt
    have hW10 := hW9.trans (hb10.mono hW9.size)
    clear E9 F9 X9 Y9 K9 M9 hW9 hb10 hcall HIm
    go_wp2_with fail
    refine wp_region_sink 4 (fun a0 fL bA v => ∃ v48 v49 v50 v51 : Value, bA = (((a0.put (some 48) v48).put (some 49) v49).put (some 50) v50).put (some 51) v51 ∧ (EqS w10 (fL 2) (fun x v => ExCopy L l1 l2 l3 p q r x v w10.heap.size) v50 v) ∧ (fL 0 = true → v48 = .agg #[.int .i64 L, .slice G1 l1.length k1, .slice G2 l2.length k2, .slice G3 l3.length k3, .int .i64 p, .int .i64 q, .int .i64 r]) ∧ (fL 1 = true → v49 = .agg #[.int .i64 L, .slice A1 l1.length c1, .slice A2 l2.length c2, .slice A3 l3.length c3, .int .i64 p, .int .i64 q, .int .i64 r]) ∧ (fL 2 = true → True) ∧ (fL 3 = true → v51 = .bool true)) (by kernel_rfl) (by decide +kernel) ?_ ?_ ?_
    · exact ⟨undef, undef, undef, undef, by simp only [Act.put, List.setIfInBounds_toArray, List.set_cons_zero, List.set_cons_succ], ⟨(Below.refl _ _).drew, nofun⟩, nofun, nofun, nofun, nofun⟩
    · rintro fL bA v ⟨v48, v49, v50, v51, rfl, hS, q0, q1, q2, q3⟩ i hi hf o ho hall
      simp only [Act.put, List.setIfInBounds_toArray, List.set_cons_zero, List.set_cons_succ]
      have hn : i = 0 ∨ i = 1 ∨ i = 2 ∨ i = 3 := by omega
      clear hi
      rcases hn with rfl | rfl | rfl | rfl
      · obtain rfl := Option.some.inj ho
        have FF := K10.below hS.hb K10.lt
        have y0 : v.cell? ⟨gx, 0, none⟩ = some (.int .i64 L) := FF.cell 0
        have y1 : v.cell? ⟨gx, 1, none⟩ = some (.slice G1 l1.length k1) := FF.cell 1
        have y2 : v.cell? ⟨gx, 2, none⟩ = some (.slice G2 l2.length k2) := FF.cell 2
        have y3 : v.cell? ⟨gx, 3, none⟩ = some (.slice G3 l3.length k3) := FF.cell 3
        have y4 : v.cell? ⟨gx, 4, none⟩ = some (.int .i64 p) := FF.cell 4
        have y5 : v.cell? ⟨gx, 5, none⟩ = some (.int .i64 q) := FF.cell 5
        have y6 : v.cell? ⟨gx, 6, none⟩ = some (.int .i64 r) := FF.cell 6
        clear hall ho
        refine wpOp_step rfl (fun K hK => ?_)
        go_simp
        exact hK _ _ ⟨_, _, _, _, rfl, hS, fun _ => rfl, q1, fun _ => trivial, q3⟩
      · obtain rfl := Option.some.inj ho
        have FF := X10.below hS.hb X10.lt
        have y0 : v.cell? ⟨w.heap.size, 0, none⟩ = some (.int .i64 L) := FF.cell 0
        have y1 : v.cell? ⟨w.heap.size, 1, none⟩ = some (.slice A1 l1.length c1) := FF.cell 1
        have y2 : v.cell? ⟨w.heap.size, 2, none⟩ = some (.slice A2 l2.length c2) := FF.cell 2
        have y3 : v.cell? ⟨w.heap.size, 3, none⟩ = some (.slice A3 l3.length c3) := FF.cell 3
        have y4 : v.cell? ⟨w.heap.size, 4, none⟩ = some (.int .i64 p) := FF.cell 4
        have y5 : v.cell? ⟨w.heap.size, 5, none⟩ = some (.int .i64 q) := FF.cell 5
        have y6 : v.cell? ⟨w.heap.size, 6, none⟩ = some (.int .i64 r) := FF.cell 6
        clear hall ho
        refine wpOp_step rfl (fun K hK => ?_)
        go_simp
        exact hK _ _ ⟨_, _, _, _, rfl, hS, q0, fun _ => rfl, fun _ => trivial, q3⟩
      · obtain rfl := Option.some.inj ho
        obtain rfl := q1 (hall ⟨1, .data⟩ (by simp) rfl)
        clear hall ho
        refine wpOp_step rfl (fun K hK => ?_)
        go_simp
        refine Calls.mono (HT.out v (hW10.trans (hS.hb.mono hW10.size))).out ?_; rintro e w11 ⟨⟨u, rfl, hu⟩, hb11⟩
        go_simp
        exact hK _ _ ⟨_, _, _, _, rfl, ⟨hS.hb.trans (hb11.mono hS.hb.size), fun _ => hu.weak hS.hb.size⟩, q0, fun _ => rfl, fun _ => trivial, q3⟩
      · obtain rfl := Option.some.inj ho
        obtain rfl := q0 (hall ⟨0, .data⟩ (by simp) rfl)
        have e2 : fL 2 = true := hall ⟨2, .data⟩ (by simp) rfl
        clear hall ho
        refine wpOp_step rfl (fun K hK => ?_)
        obtain ⟨H1, h1, H2, h2, H3, h3, rfl, EH, _, _, _⟩ := hS.q e2
        unfold exAgg
        go_simp
        refine Calls.mono (eqEx_c L G1 k1 H1 h1 l1 G2 k2 H2 h2 l2 G3 k3 H3 h3 l3 p q r v (E10.out.later hS.hb) EH) ?_; rintro e w11 ⟨rfl, hb11⟩
        go_simp
        exact hK _ _ ⟨_, _, _, _, rfl, ⟨hS.hb.trans (hb11.mono hS.hb.size), fun e => (hS.q e).below hb11⟩, fun _ => rfl, q1, fun _ => trivial, fun _ => rfl⟩
    · rintro fL bA v ⟨v48, v49, v50, v51, rfl, hS, q0, q1, q2, q3⟩ hall
      simp only [Act.put, List.setIfInBounds_toArray, List.set_cons_zero, List.set_cons_succ]
      obtain rfl := q0 (hall 0 (by omega))
      obtain rfl := q1 (hall 1 (by omega))
      have e2 : fL 2 = true := hall 2 (by omega)
      obtain rfl := q3 (hall 3 (by omega))
      clear hall
      simp only [List.drop_succ_cons, List.drop_zero]
      have hW12 := hW10.trans (hS.hb.mono hW10.size)
      have F12 := Lib.hid (F10.out.later hS.hb)
      have Y12 := Y10.below hS.hb Y10.lt
      have M12 := M10.below hS.hb M10.lt
      clear hS hW10 E10 F10 X10 Y10 K10 M10 HT
      generalize v = w12 at *
      go_wp2_with fail
      refine wp_region_sink 4 (fun a0 fL bA v => ∃ v53 v54 v55 v56 : Value, bA = (((a0.put (some 53) v53).put (some 54) v54).put (some 55) v55).put (some 56) v56 ∧ (EqS w12 (fL 2) (fun x v => AnCopy l a b x v w12.heap.size) v55 v) ∧ (fL 0 = true → v53 = .agg #[.slice H l.length h, .int .i64 a, .int .i64 b]) ∧ (fL 1 = true → v54 = .agg #[.slice A l.length c, .int .i64 a, .int .i64 b]) ∧ (fL 2 = true → True) ∧ (fL 3 = true → v56 = .bool true)) (by kernel_rfl) (by decide +kernel) ?_ ?_ ?_
      · exact ⟨undef, undef, undef, undef, by simp only [Act.put, List.setIfInBounds_toArray, List.set_cons_zero, List.set_cons_succ], ⟨(Below.refl _ _).drew, nofun⟩, nofun, nofun, nofun, nofun⟩
      · rintro fL bA v ⟨v53, v54, v55, v56, rfl, hS, q0, q1, q2, q3⟩ i hi hf o ho hall
        simp only [Act.put, List.setIfInBounds_toArray, List.set_cons_zero, List.set_cons_succ]
        have hn : i = 0 ∨ i = 1 ∨ i = 2 ∨ i = 3 := by omega
        clear hi
        rcases hn with rfl | rfl | rfl | rfl
        · obtain rfl := Option.some.inj ho
          have FF := M12.below hS.hb M12.lt
          have y0 : v.cell? ⟨ga, 0, none⟩ = some (.slice H l.length h) := FF.cell 0
          have y1 : v.cell? ⟨ga, 1, none⟩ = some (.int .i64 a) := FF.cell 1
          have y2 : v.cell? ⟨ga, 2, none⟩ = some (.int .i64 b) := FF.cell 2
          clear hall ho
          refine wpOp_step rfl (fun K hK => ?_)
          go_simp
          exact hK _ _ ⟨_, _, _, _, rfl, hS, fun _ => rfl, q1, fun _ => trivial, q3⟩
        · obtain rfl := Option.some.inj ho
          have FF := Y12.below hS.hb Y12.lt
          have y0 : v.cell? ⟨w.heap.size + 1, 0, none⟩ = some (.slice A l.length c) := FF.cell 0
          have y1 : v.cell? ⟨w.heap.size + 1, 1, none⟩ = some (.int .i64 a) := FF.cell 1
          have y2 : v.cell? ⟨w.heap.size + 1, 2, none⟩ = some (.int .i64 b) := FF.cell 2
          clear hall ho
          refine wpOp_step rfl (fun K hK => ?_)
          go_simp
          exact hK _ _ ⟨_, _, _, _, rfl, hS, q0, fun _ => rfl, fun _ => trivial, q3⟩
        · obtain rfl := Option.some.inj ho
          obtain rfl := q1 (hall ⟨1, .data⟩ (by simp) rfl)
          clear hall ho
          refine wpOp_step rfl (fun K hK => ?_)
          go_simp
          refine Calls.mono (HU.out v (hW12.trans (hS.hb.mono hW12.size))).out ?_; rintro e w13 ⟨⟨u, rfl, hu⟩, hb13⟩
          go_simp
          exact hK _ _ ⟨_, _, _, _, rfl, ⟨hS.hb.trans (hb13.mono hS.hb.size), fun _ => hu.weak hS.hb.size⟩, q0, fun _ => rfl, fun _ => trivial, q3⟩
        · obtain rfl := Option.some.inj ho
          obtain rfl := q0 (hall ⟨0, .data⟩ (by simp) rfl)
          have e2 : fL 2 = true := hall ⟨2, .data⟩ (by simp) rfl
          clear hall ho
          refine wpOp_step rfl (fun K hK => ?_)
          obtain ⟨B, d, rfl, FH, _⟩ := hS.q e2
          go_simp
          refine Calls.mono (eqAn_c H B h d l a b v (F12.out.later hS.hb) FH) ?_; rintro e w13 ⟨rfl, hb13⟩
          go_simp
          exact hK _ _ ⟨_, _, _, _, rfl, ⟨hS.hb.trans (hb13.mono hS.hb.size), fun e => (hS.q e).below hb13⟩, fun _ => rfl, q1, fun _ => trivial, fun _ => rfl⟩
      · rintro fL bA v ⟨v53, v54, v55, v56, rfl, hS, q0, q1, q2, q3⟩ hall
        simp only [Act.put, List.setIfInBounds_toArray, List.set_cons_zero, List.set_cons_succ]
        obtain rfl := q0 (hall 0 (by omega))
        obtain rfl := q1 (hall 1 (by omega))
        have e2 : fL 2 = true := hall 2 (by omega)
        obtain rfl := q3 (hall 3 (by omega))
        clear hall
        simp only [List.drop_succ_cons, List.drop_zero]
        have hbv := hW12.trans (hS.hb.mono hW12.size)
        go_wp2
        go_ret
        exact ⟨rfl, (by repeat (first | with_reducible exact hbv | with_reducible apply below_drewN' | with_reducible apply Below.drew | (with_reducible refine Below.alloc ?_ (by first | omega | (simp; omega) | simp | (have := (hbv).size; omega) | (have := (hbv).size; simp; omega)) _) | (with_reducible refine Below.setCell ?_ (by first | omega | (simp; omega) | simp | (have := (hbv).size; omega) | (have := (hbv).size; simp; omega)) _) | exact hbv))⟩
end Go.Proofs.YtednjmldjbndhaaGreat
