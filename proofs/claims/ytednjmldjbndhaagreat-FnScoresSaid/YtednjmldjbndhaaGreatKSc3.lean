/- The reference's draw of a rule. Condition: the code has at most 4096 bytes. -/
import Derived.Test.YtednjmldjbndhaaGreatKSc2
set_option linter.unusedSimpArgs false
set_option linter.unusedVariables false
namespace Go.Proofs.YtednjmldjbndhaaGreat
open Go.RowKit
theorem Own.setNe {w : World} {base k : Nat} {e : TypeId} {v : Value} {xs : List (List Value)} {g : Nat} (h : Own w base e k v xs) (hne : v.ownBlock ≠ some g) (j : Nat) (u : Value) : Own (w.setCell ⟨g, j, none⟩ u) base e k v xs :=
 h.kept (grownBy_stores [u] j (World.grownBy.refl w (some g))) (.inr hne)
/-- while a rule with two drawn scales on its stock is made -/
structure R6S (w : World) (A : Option Addr) (n c g N b3 : Nat) (rc : Array Value) (L : Int) (s2 : Value) (rows2 : List (List Value)) (b27 b29 b30 b33 : Bool) (v27 v29 v30 v33 : Value) (v : World) : Prop where
 s : Src v A n c g
 gr : w.grownBy v (some g)
 bn : Blk v N 26 #[.int .i64 0, .slice none 0 0, .slice none 0 0]
 br : Blk v b3 26 rc
 o2 : Own v w.heap.size 2 1 s2 rows2
 l27 : b27 = true → ∃ x : Int, v27 = .int .i64 x
 l29 : b29 = true → ∃ x : Int, v29 = .int .i64 x
 l30 : b30 = true → ∃ (x y : Int) (bb : Nat), v30 = .slice (some ⟨bb, 0, none⟩) 2 2 ∧ Own v w.heap.size 2 1 (.slice (some ⟨bb, 0, none⟩) 2 2) ([x, y].map ic)
 l33 : b33 = true → b30 = true ∧ v33 = .agg #[.int .i64 L, v30, s2]
section
variable {w v v' : World} {A : Option Addr} {n c g N b3 : Nat} {rc : Array Value} {L : Int} {s2 : Value} {rows2 : List (List Value)} {b27 b29 b30 b33 : Bool} {v27 v29 v30 v33 : Value}
theorem R6S.start (hS : Src v A n c g) (hG : w.grownBy v (some g)) (bn : Blk v N 26 #[.int .i64 0, .slice none 0 0, .slice none 0 0]) (br : Blk v b3 26 rc) (o2 : Own v w.heap.size 2 1 s2 rows2) : R6S w A n c g N b3 rc L s2 rows2 false false false false v27 v29 v30 v33 v.drew :=
 ⟨hS.keep fun _ _ => rfl, grown_drewN hG 1, bn.drewN 1, br.drewN 1, o2.drewN 1, nofun, nofun, nofun, nofun⟩
theorem R6S.c27 (h : R6S w A n c g N b3 rc L s2 rows2 b27 b29 b30 b33 v27 v29 v30 v33 v) (hn : g < w.heap.size ∧ N ≠ g ∧ b3 ≠ g) (x : Int) (hS : Src v' A n c g) (hg : v.grownBy v' (some g)) : R6S w A n c g N b3 rc L s2 rows2 true b29 b30 b33 (.int .i64 x) v29 v30 v33 v' :=
 ⟨hS, h.gr.trans hg, h.bn.src hg hn.2.1, h.br.src hg hn.2.2, h.o2.src hg hn.1, fun _ => ⟨x, rfl⟩, h.l29, (fun e => by
  obtain ⟨x, y, bb, h1, h2⟩ := h.l30 e
  exact ⟨x, y, bb, h1, h2.src hg hn.1⟩), h.l33⟩
theorem R6S.c29 (h : R6S w A n c g N b3 rc L s2 rows2 b27 b29 b30 b33 v27 v29 v30 v33 v) (hn : g < w.heap.size ∧ N ≠ g ∧ b3 ≠ g) (x : Int) (hS : Src v' A n c g) (hg : v.grownBy v' (some g)) : R6S w A n c g N b3 rc L s2 rows2 b27 true b30 b33 v27 (.int .i64 x) v30 v33 v' :=
 ⟨hS, h.gr.trans hg, h.bn.src hg hn.2.1, h.br.src hg hn.2.2, h.o2.src hg hn.1, h.l27, fun _ => ⟨x, rfl⟩, (fun e => by
  obtain ⟨x, y, bb, h1, h2⟩ := h.l30 e
  exact ⟨x, y, bb, h1, h2.src hg hn.1⟩), h.l33⟩
theorem R6S.mk30 (h : R6S w A n c g N b3 rc L s2 rows2 b27 b29 b30 b33 v27 v29 v30 v33 v) (h30 : b30 = false) (x y : Int) : R6S w A n c g N b3 rc L s2 rows2 b27 b29 true b33 v27 v29 (.slice (some ⟨v.heap.size, 0, none⟩) 2 2) v33 (v.alloc (.cells #[.int .i64 x, .int .i64 y] 2)) :=
 ⟨h.s.alloc _, h.gr.trans (grown_alloc _ _), h.bn.alloc _, h.br.alloc _, h.o2.alloc _, h.l27, h.l29, fun _ => ⟨x, y, _, rfl, Own.litX (xs := [x, y]) h.gr.size (by simp)⟩, fun e => by
  have := (h.l33 e).1
  rw [h30] at this; cases this⟩
theorem R6S.b33' (h : R6S w A n c g N b3 rc L s2 rows2 b27 b29 b30 b33 v27 v29 v30 v33 v) (h30 : b30 = true) : R6S w A n c g N b3 rc L s2 rows2 b27 b29 b30 true v27 v29 v30 (.agg #[.int .i64 L, v30, s2]) v :=
 ⟨h.s, h.gr, h.bn, h.br, h.o2, h.l27, h.l29, h.l30, fun _ => ⟨h30, rfl⟩⟩
end
set_option maxRecDepth 100000 in
set_option maxHeartbeats 2000000 in
theorem l11Draw_c (A : Option Addr) (n c g : Nat) (w : World) (hS : Src w A n c g) : Calls Tryz.prog 47 #[.pointer (some ⟨g, 0, none⟩)] w (DRu A n c g w) := by
 have hG : w.grownBy (w.alloc (.cells #[.int .i64 0, .slice none 0 0, .slice none 0 0] 26)) (some g) := grown_alloc _ _
 have hlt := hS.lt
 have BN := Blk.new w 26 #[.int .i64 0, .slice none 0 0, .slice none 0 0]
 have hS := hS.alloc (.cells #[.int .i64 0, .slice none 0 0, .slice none 0 0] 26)
 unfold DRu
 go_enter Tryz.func47, Tryz.ntmps47
 go_wp2_with fail
 generalize w.alloc (.cells #[.int .i64 0, .slice none 0 0, .slice none 0 0] 26) = w0 at *
 refine (l01Next_c A n c g _ _ hS).mono ?_; rintro e w1 ⟨x, rfl, ⟨xa, xb⟩, _, hS, hg⟩
 have BN := BN.src hg (by omega)
 have hG := hG.trans hg
 clear hg
 have hw : IntKind.i64.wrap (1000 + x) = 1000 + x := IntWalk.i64_in _ (by omega)
 go_wp2_with fail
 refine (l01Pick_n A n c g #[.int .i64 25000, .int .i64 12500, .int .i64 (1000 + x)] 3 3 _ hS (by intro v hv; simp only [List.mem_cons, List.not_mem_nil, or_false] at hv; rcases hv with rfl | rfl | rfl; all_goals exact ⟨_, rfl, by omega, by omega⟩) rfl (by decide) (by decide)).mono ?_; rintro e w2 ⟨L, rfl, _, hS, hg⟩
 have BN := BN.src hg (by omega)
 have hG := hG.trans hg
 clear hg xa xb hw
 have gz := hG.size
 go_wp2_with fail
 refine (l11DrawScales_c A n c g _ hS).mono ?_; rintro e w3 ⟨l1, A1, c1, rfl, hl1, hO1, hS, hg⟩
 have hO1 := hO1.mono gz
 have BN := BN.src hg (by omega)
 have hG := hG.trans hg
 clear hg
 have gz := hG.size
 go_wp2_with fail
 refine (l11DrawScales_c A n c g _ hS).mono ?_; rintro e w4 ⟨l2, A2, c2, rfl, hl2, hO2, hS, hg⟩
 have hO2 := hO2.mono gz
 have hO1 := hO1.src hg (by omega)
 have BN := BN.src hg (by omega)
 have hG := hG.trans hg
 clear hg
 have gz := hG.size
 have hbn := BN.lt
 have B3 := Blk.new w4 26 #[.int .i64 L, .slice A1 l1.length c1, .slice A2 l2.length c2]
 have BN := BN.alloc (.cells #[.int .i64 L, .slice A1 l1.length c1, .slice A2 l2.length c2] 26)
 have hO1 := hO1.alloc (.cells #[.int .i64 L, .slice A1 l1.length c1, .slice A2 l2.length c2] 26)
 have hO2 := hO2.alloc (.cells #[.int .i64 L, .slice A1 l1.length c1, .slice A2 l2.length c2] 26)
 have hS := hS.alloc (.cells #[.int .i64 L, .slice A1 l1.length c1, .slice A2 l2.length c2] 26)
 have hG := hG.trans (grown_alloc (.cells #[.int .i64 L, .slice A1 l1.length c1, .slice A2 l2.length c2] 26) (some g))
 go_wp2_with fail
 generalize w4.alloc (.cells #[.int .i64 L, .slice A1 l1.length c1, .slice A2 l2.length c2] 26) = w5 at *
 generalize w4.heap.size = b3 at *
 refine (l01Next_c A n c g _ _ hS).mono ?_; rintro e w6 ⟨q, rfl, _, _, hS, hg⟩
 have hO1 := hO1.src hg (by omega)
 have hO2 := hO2.src hg (by omega)
 have BN := BN.src hg (by omega)
 have B3 := B3.src hg (by omega)
 have hG := hG.trans hg
 clear hg
 have gz := hG.size
 have hne : b3 ≠ w.heap.size := by omega
 have n1b : (Value.slice A1 l1.length c1).ownBlock ≠ some b3 := own_ne_blkX hO1 B3 (by decide)
 have n1N : (Value.slice A1 l1.length c1).ownBlock ≠ some w.heap.size := own_ne_blkX hO1 BN (by decide)
 have n2b : (Value.slice A2 l2.length c2).ownBlock ≠ some b3 := own_ne_blkX hO2 B3 (by decide)
 have n2N : (Value.slice A2 l2.length c2).ownBlock ≠ some w.heap.size := own_ne_blkX hO2 BN (by decide)
 have N1b := Lib.hid n1b; have N1N := Lib.hid n1N; have N2b := Lib.hid n2b; have N2N := Lib.hid n2N
 clear n1b n1N n2b n2N
 by_cases q0 : q = 0
 ·subst q0
  go_wp2_with fail
  refine (l05DrawLength_c A n c g _ hS).mono ?_; rintro e w7 ⟨p, rfl, _, hS, hg⟩
  have hO1 := hO1.src hg (by omega)
  have hO2 := hO2.src hg (by omega)
  have BN := BN.src hg (by omega)
  have B3 := B3.src hg (by omega)
  have hG := hG.trans hg
  clear hg
  have yc0 : w7.cell? ⟨b3, 0, none⟩ = some (.int .i64 L) := B3.cell 0
  have yd0 : w7.cell? ⟨w.heap.size, 0, none⟩ = some (.int .i64 0) := BN.cell 0
  have fc0 := B3.frozen 0
  have fd0 := BN.frozen 0
  have yc1 : w7.cell? ⟨b3, 1, none⟩ = some (.slice A1 l1.length c1) := B3.cell 1
  have yd1 : w7.cell? ⟨w.heap.size, 1, none⟩ = some (.slice none 0 0) := BN.cell 1
  have fc1 := B3.frozen 1
  have fd1 := BN.frozen 1
  have yc2 : w7.cell? ⟨b3, 2, none⟩ = some (.slice A2 l2.length c2) := B3.cell 2
  have yd2 : w7.cell? ⟨w.heap.size, 2, none⟩ = some (.slice none 0 0) := BN.cell 2
  have fc2 := B3.frozen 2
  have fd2 := BN.frozen 2
  have zb := B3.lt
  have zn := BN.lt
  go_wp2
  refine bodyPost_ret (v := .agg #[.int .i64 p, .slice A1 l1.length c1, .slice A2 l2.length c2]) (by simp [results, Tryz.results47, go_sem, yd0, yd1, yd2]) rfl ⟨p, l1, l2, A1, A2, c1, c2, rfl, (by first | omega | (simp; done) | (simp; omega)), (by repeat (first | with_reducible exact hO1 | with_reducible refine Own.setNe ?_ (by first | exact N1b.out | exact N1N.out) _ _)), (by repeat (first | with_reducible exact hO2 | with_reducible refine Own.setNe ?_ (by first | exact N2b.out | exact N2N.out) _ _)), (by repeat (first | with_reducible exact hS | with_reducible refine Src.far ?_ (by first | omega | (simp only; omega)))), (by repeat (first | with_reducible exact hG | with_reducible refine grown_far ?_ (by first | (simp; done) | omega | (simp only; omega))))⟩
 ·have q0' : (q == 0) = false := by simpa using q0
  by_cases q1 : q = 1
  ·subst q1
   have hnn : g < w.heap.size ∧ w.heap.size ≠ g ∧ b3 ≠ g := by omega
   clear hO1
   go_wp2_with fail
   refine wp_region_sink 10 (fun a0 fL bA v => ∃ v24 v25 v26 v27 v28 v29 v30 v31 v32 v33 : Value, bA = (((((((((a0.put (some 24) v24).put (some 25) v25).put (some 26) v26).put (some 27) v27).put (some 28) v28).put (some 29) v29).put (some 30) v30).put (some 31) v31).put (some 32) v32).put (some 33) v33 ∧ (R6S w A n c g w.heap.size b3 #[.int .i64 L, .slice A1 l1.length c1, .slice A2 l2.length c2] L (.slice A2 l2.length c2) (l2.map ic) (fL 3) (fL 5) (fL 6) (fL 9) v27 v29 v30 v33 v) ∧ (fL 0 = true → v24 = .pointer (some ⟨b3, 0, none⟩)) ∧ (fL 1 = true → v25 = .int .i64 L) ∧ (fL 2 = true → v26 = .pointer (some ⟨g, 0, none⟩)) ∧ (fL 3 = true → True) ∧ (fL 4 = true → v28 = .pointer (some ⟨g, 0, none⟩)) ∧ (fL 5 = true → True) ∧ (fL 6 = true → True) ∧ (fL 7 = true → v31 = .pointer (some ⟨b3, 2, none⟩)) ∧ (fL 8 = true → v32 = .slice A2 l2.length c2) ∧ (fL 9 = true → True)) (by kernel_rfl) (by decide +kernel) ?_ ?_ ?_
   ·exact ⟨undef, undef, undef, undef, undef, undef, undef, undef, undef, undef, by simp only [Act.put, List.setIfInBounds_toArray, List.set_cons_zero, List.set_cons_succ], R6S.start hS hG BN B3 hO2, nofun, nofun, nofun, nofun, nofun, nofun, nofun, nofun, nofun, nofun⟩
   ·rintro fL bA v ⟨v24, v25, v26, v27, v28, v29, v30, v31, v32, v33, rfl, hS, q0, q1, q2, q3, q4, q5, q6, q7, q8, q9⟩ i hi hf o ho hall
    simp only [Act.put, List.setIfInBounds_toArray, List.set_cons_zero, List.set_cons_succ]
    have hn : i = 0 ∨ i = 1 ∨ i = 2 ∨ i = 3 ∨ i = 4 ∨ i = 5 ∨ i = 6 ∨ i = 7 ∨ i = 8 ∨ i = 9 := by omega
    clear hi
    rcases hn with rfl | rfl | rfl | rfl | rfl | rfl | rfl | rfl | rfl | rfl
    ·obtain rfl := Option.some.inj ho
     clear hall ho
     refine wpOp_step rfl (fun K hK => ?_)
     go_simp
     exact hK _ _ ⟨_, _, _, _, _, _, _, _, _, _, rfl, hS, fun _ => rfl, q1, q2, fun _ => trivial, q4, fun _ => trivial, fun _ => trivial, q7, q8, fun _ => trivial⟩
    ·obtain rfl := Option.some.inj ho
     obtain rfl := q0 (hall ⟨0, .data⟩ (by simp) rfl)
     have y0 : v.cell? ⟨b3, 0, none⟩ = some (.int .i64 L) := hS.br.cell 0
     clear hall ho
     refine wpOp_step rfl (fun K hK => ?_)
     go_simp
     exact hK _ _ ⟨_, _, _, _, _, _, _, _, _, _, rfl, hS, fun _ => rfl, fun _ => rfl, q2, fun _ => trivial, q4, fun _ => trivial, fun _ => trivial, q7, q8, fun _ => trivial⟩
    ·obtain rfl := Option.some.inj ho
     clear hall ho
     refine wpOp_step rfl (fun K hK => ?_)
     go_simp
     exact hK _ _ ⟨_, _, _, _, _, _, _, _, _, _, rfl, hS, q0, q1, fun _ => rfl, fun _ => trivial, q4, fun _ => trivial, fun _ => trivial, q7, q8, fun _ => trivial⟩
    ·obtain rfl := Option.some.inj ho
     obtain rfl := q2 (hall ⟨2, .data⟩ (by simp) rfl)
     clear hall ho
     refine wpOp_step rfl (fun K hK => ?_)
     go_simp
     refine Calls.mono (l05DrawScale_c A n c g v hS.s) ?_; rintro e w8 ⟨qq, rfl, _, hS8, hg8⟩
     go_simp
     exact hK _ _ ⟨_, _, _, _, _, _, _, _, _, _, rfl, hS.c27 hnn qq hS8 hg8, q0, q1, fun _ => rfl, fun _ => trivial, q4, fun _ => trivial, fun _ => trivial, q7, q8, fun _ => trivial⟩
    ·obtain rfl := Option.some.inj ho
     clear hall ho
     refine wpOp_step rfl (fun K hK => ?_)
     go_simp
     exact hK _ _ ⟨_, _, _, _, _, _, _, _, _, _, rfl, hS, q0, q1, q2, fun _ => trivial, fun _ => rfl, fun _ => trivial, fun _ => trivial, q7, q8, fun _ => trivial⟩
    ·obtain rfl := Option.some.inj ho
     obtain rfl := q4 (hall ⟨4, .data⟩ (by simp) rfl)
     clear hall ho
     refine wpOp_step rfl (fun K hK => ?_)
     go_simp
     refine Calls.mono (l05DrawScale_c A n c g v hS.s) ?_; rintro e w8 ⟨qq, rfl, _, hS8, hg8⟩
     go_simp
     exact hK _ _ ⟨_, _, _, _, _, _, _, _, _, _, rfl, hS.c29 hnn qq hS8 hg8, q0, q1, q2, fun _ => trivial, fun _ => rfl, fun _ => trivial, fun _ => trivial, q7, q8, fun _ => trivial⟩
    ·obtain rfl := Option.some.inj ho
     have e3 : fL 3 = true := hall ⟨3, .data⟩ (by simp) rfl
     have e5 : fL 5 = true := hall ⟨5, .data⟩ (by simp) rfl
     obtain ⟨x, rfl⟩ := hS.l27 e3
     obtain ⟨y, rfl⟩ := hS.l29 e5
     clear hall ho
     refine wpOp_step rfl (fun K hK => ?_)
     go_simp
     exact hK _ _ ⟨_, _, _, _, _, _, _, _, _, _, rfl, hS.mk30 hf x y, q0, q1, q2, fun _ => trivial, q4, fun _ => trivial, fun _ => trivial, q7, q8, fun _ => trivial⟩
    ·obtain rfl := Option.some.inj ho
     clear hall ho
     refine wpOp_step rfl (fun K hK => ?_)
     go_simp
     exact hK _ _ ⟨_, _, _, _, _, _, _, _, _, _, rfl, hS, q0, q1, q2, fun _ => trivial, q4, fun _ => trivial, fun _ => trivial, fun _ => rfl, q8, fun _ => trivial⟩
    ·obtain rfl := Option.some.inj ho
     obtain rfl := q7 (hall ⟨7, .data⟩ (by simp) rfl)
     have y0 : v.cell? ⟨b3, 2, none⟩ = some (.slice A2 l2.length c2) := hS.br.cell 2
     clear hall ho
     refine wpOp_step rfl (fun K hK => ?_)
     go_simp
     exact hK _ _ ⟨_, _, _, _, _, _, _, _, _, _, rfl, hS, q0, q1, q2, fun _ => trivial, q4, fun _ => trivial, fun _ => trivial, fun _ => rfl, fun _ => rfl, fun _ => trivial⟩
    ·obtain rfl := Option.some.inj ho
     obtain rfl := q1 (hall ⟨1, .data⟩ (by simp) rfl)
     have e6 : fL 6 = true := hall ⟨6, .data⟩ (by simp) rfl
     obtain rfl := q8 (hall ⟨8, .data⟩ (by simp) rfl)
     obtain ⟨x, y, bb, rfl, hO9⟩ := hS.l30 e6
     clear hall ho
     refine wpOp_step rfl (fun K hK => ?_)
     go_simp
     exact hK _ _ ⟨_, _, _, _, _, _, _, _, _, _, rfl, hS.b33' e6, q0, fun _ => rfl, q2, fun _ => trivial, q4, fun _ => trivial, fun _ => trivial, q7, fun _ => rfl, fun _ => trivial⟩
   ·rintro fL bA v ⟨v24, v25, v26, v27, v28, v29, v30, v31, v32, v33, rfl, hS, q0, q1, q2, q3, q4, q5, q6, q7, q8, q9⟩ hall
    simp only [Act.put, List.setIfInBounds_toArray, List.set_cons_zero, List.set_cons_succ]
    obtain rfl := q0 (hall 0 (by omega))
    obtain rfl := q1 (hall 1 (by omega))
    obtain rfl := q2 (hall 2 (by omega))
    have e3 : fL 3 = true := hall 3 (by omega)
    obtain rfl := q4 (hall 4 (by omega))
    have e5 : fL 5 = true := hall 5 (by omega)
    have e6 : fL 6 = true := hall 6 (by omega)
    obtain rfl := q7 (hall 7 (by omega))
    obtain rfl := q8 (hall 8 (by omega))
    have e9 : fL 9 = true := hall 9 (by omega)
    clear hall
    simp only [List.drop_succ_cons, List.drop_zero]
    obtain ⟨x, y, bb, rfl, hO1⟩ := hS.l30 e6
    obtain ⟨_, rfl⟩ := hS.l33 e9
    have hO2 := hS.o2
    have BN := hS.bn
    have B3 := hS.br
    have hG := hS.gr
    have hS := hS.s
    have n1N : (Value.slice (some ⟨bb, 0, none⟩) [x, y].length 2).ownBlock ≠ some w.heap.size := own_ne_blkX hO1 BN (by decide)
    have yd0 : v.cell? ⟨w.heap.size, 0, none⟩ = some (.int .i64 0) := BN.cell 0
    have yd1 : v.cell? ⟨w.heap.size, 1, none⟩ = some (.slice none 0 0) := BN.cell 1
    have yd2 : v.cell? ⟨w.heap.size, 2, none⟩ = some (.slice none 0 0) := BN.cell 2
    have fd0 := BN.frozen 0
    have fd1 := BN.frozen 1
    have fd2 := BN.frozen 2
    have zn := BN.lt
    have n1N := Lib.hid n1N
    have hO1 : Own v w.heap.size 2 1 (.slice (some ⟨bb, 0, none⟩) [x, y].length 2) ([x, y].map ic) := hO1
    go_wp2
    refine bodyPost_ret (v := .agg #[.int .i64 L, .slice (some ⟨bb, 0, none⟩) 2 2, .slice A2 l2.length c2]) (by simp [results, Tryz.results47, go_sem, yd0, yd1, yd2]) rfl ⟨L, [x, y], l2, some ⟨bb, 0, none⟩, A2, 2, c2, rfl, (by first | omega | (simp; done) | (simp; omega)), (by repeat (first | with_reducible exact hO1 | with_reducible refine Own.setNe ?_ (by first | exact n1N.out | exact n1N.out) _ _)), (by repeat (first | with_reducible exact hO2 | with_reducible refine Own.setNe ?_ (by first | exact N2b.out | exact N2N.out) _ _)), (by repeat (first | with_reducible exact hS | with_reducible refine Src.far ?_ (by first | omega | (simp only; omega)))), (by repeat (first | with_reducible exact hG | with_reducible refine grown_far ?_ (by first | (simp; done) | omega | (simp only; omega))))⟩
  ·have q1' : (q == 1) = false := by simpa using q1
   by_cases q2 : q = 2
   ·subst q2
    have yc0 : w6.cell? ⟨b3, 0, none⟩ = some (.int .i64 L) := B3.cell 0
    have yd0 : w6.cell? ⟨w.heap.size, 0, none⟩ = some (.int .i64 0) := BN.cell 0
    have fc0 := B3.frozen 0
    have fd0 := BN.frozen 0
    have yc1 : w6.cell? ⟨b3, 1, none⟩ = some (.slice A1 l1.length c1) := B3.cell 1
    have yd1 : w6.cell? ⟨w.heap.size, 1, none⟩ = some (.slice none 0 0) := BN.cell 1
    have fc1 := B3.frozen 1
    have fd1 := BN.frozen 1
    have yc2 : w6.cell? ⟨b3, 2, none⟩ = some (.slice A2 l2.length c2) := B3.cell 2
    have yd2 : w6.cell? ⟨w.heap.size, 2, none⟩ = some (.slice none 0 0) := BN.cell 2
    have fc2 := B3.frozen 2
    have fd2 := BN.frozen 2
    have zb := B3.lt
    have zn := BN.lt
    go_wp2
    refine bodyPost_ret (v := .agg #[.int .i64 L, .slice A1 l1.length c1, .slice none 0 0]) (by simp [results, Tryz.results47, go_sem, yd0, yd1, yd2]) rfl ⟨L, l1, [], A1, none, c1, 0, rfl, (by first | omega | (simp; done) | (simp; omega)), (by repeat (first | with_reducible exact hO1 | with_reducible refine Own.setNe ?_ (by first | exact N1b.out | exact N1N.out) _ _)), Own.nil_, (by repeat (first | with_reducible exact hS | with_reducible refine Src.far ?_ (by first | omega | (simp only; omega)))), (by repeat (first | with_reducible exact hG | with_reducible refine grown_far ?_ (by first | (simp; done) | omega | (simp only; omega))))⟩
   ·have q2' : (q == 2) = false := by simpa using q2
    have yc0 : w6.cell? ⟨b3, 0, none⟩ = some (.int .i64 L) := B3.cell 0
    have yd0 : w6.cell? ⟨w.heap.size, 0, none⟩ = some (.int .i64 0) := BN.cell 0
    have fc0 := B3.frozen 0
    have fd0 := BN.frozen 0
    have yc1 : w6.cell? ⟨b3, 1, none⟩ = some (.slice A1 l1.length c1) := B3.cell 1
    have yd1 : w6.cell? ⟨w.heap.size, 1, none⟩ = some (.slice none 0 0) := BN.cell 1
    have fc1 := B3.frozen 1
    have fd1 := BN.frozen 1
    have yc2 : w6.cell? ⟨b3, 2, none⟩ = some (.slice A2 l2.length c2) := B3.cell 2
    have yd2 : w6.cell? ⟨w.heap.size, 2, none⟩ = some (.slice none 0 0) := BN.cell 2
    have fc2 := B3.frozen 2
    have fd2 := BN.frozen 2
    have zb := B3.lt
    have zn := BN.lt
    go_wp2
    refine bodyPost_ret (v := .agg #[.int .i64 L, .slice A1 l1.length c1, .slice A2 l2.length c2]) (by simp [results, Tryz.results47, go_sem, yd0, yd1, yd2]) rfl ⟨L, l1, l2, A1, A2, c1, c2, rfl, (by first | omega | (simp; done) | (simp; omega)), (by repeat (first | with_reducible exact hO1 | with_reducible refine Own.setNe ?_ (by first | exact N1b.out | exact N1N.out) _ _)), (by repeat (first | with_reducible exact hO2 | with_reducible refine Own.setNe ?_ (by first | exact N2b.out | exact N2N.out) _ _)), (by repeat (first | with_reducible exact hS | with_reducible refine Src.far ?_ (by first | omega | (simp only; omega)))), (by repeat (first | with_reducible exact hG | with_reducible refine grown_far ?_ (by first | (simp; done) | omega | (simp only; omega))))⟩
end Go.Proofs.YtednjmldjbndhaaGreat
