/- The reference's draw of what an exercise is made from. Condition: the code has at most 4096 bytes. -/
import Derived.Test.YtednjmldjbndhaaGreatKSc31
set_option linter.unusedSimpArgs false
set_option linter.unusedVariables false
namespace Go.Proofs.YtednjmldjbndhaaGreat
open Go.RowKit
set_option maxRecDepth 100000 in
set_option maxHeartbeats 2000000 in
theorem drawMakeExercise_c (A : Option Addr) (n c : Nat) (w : World) (hn : n ≤ 4096) (hb : Bytes w A n w.heap.size) : Calls Tryz.prog 10 #[.slice A n c] w (DMk w) := by
 have hF := Lib.hid (l01From_c A n c ((w.alloc (.cells #[.int .i64 0, .slice none 0 0, .slice none 0 0] 26)).alloc (.cells #[.int .i64 0, .int .i64 0, .int .i64 0] 29)) hn ((hb.keep fun p hp => (World.cell?_alloc_lt _ _ p (by simp; omega)).trans (World.cell?_alloc_lt w _ p hp)).more (by simp; omega)))
 have BR := (Blk.new w 26 #[.int .i64 0, .slice none 0 0, .slice none 0 0]).alloc (.cells #[.int .i64 0, .int .i64 0, .int .i64 0] 29)
 have BE := Blk.new' (w.alloc (.cells #[.int .i64 0, .slice none 0 0, .slice none 0 0] 26)) 29 #[.int .i64 0, .int .i64 0, .int .i64 0] (g := w.heap.size + 1) (by simp)
 have hB0 : Below w.heap.size w ((w.alloc (.cells #[.int .i64 0, .slice none 0 0, .slice none 0 0] 26)).alloc (.cells #[.int .i64 0, .int .i64 0, .int .i64 0] 29)) := (by repeat first | with_reducible (first | exact Below.refl _ _ | apply below_drewN' | apply Below.drew | refine Below.alloc ?_ ?_ _ | refine Below.setCell ?_ ?_ _) | exact Below.refl _ _ | omega | (simp <;> omega) | (have := (Below.refl _ _).size; first | omega | (simp <;> omega)))
 have hz9 : ((w.alloc (.cells #[.int .i64 0, .slice none 0 0, .slice none 0 0] 26)).alloc (.cells #[.int .i64 0, .int .i64 0, .int .i64 0] 29)).heap.size = w.heap.size + 1 + 1 := by simp
 have hb0 := Lib.hid hb
 clear hb
 unfold DMk
 go_enter Tryz.func10, Tryz.ntmps10
 go_wp2_with fail
 generalize (w.alloc (.cells #[.int .i64 0, .slice none 0 0, .slice none 0 0] 26)).alloc (.cells #[.int .i64 0, .int .i64 0, .int .i64 0] 29) = w0 at *
 refine hF.out.mono ?_; rintro e w1 ⟨rfl, hS, hb1⟩
 have BR := BR.below hb1 BR.lt
 have BE := BE.below hb1 BE.lt
 have hB := hB0.trans (hb1.mono hB0.size)
 clear hF hb1 hB0
 rw [hz9] at hS
 go_wp2_with fail
 generalize hgw : w.heap.size + 1 + 1 = g at *
 have hgl : g < w1.heap.size := hS.lt
 refine (l11Draw_c A n c g _ hS).mono ?_; rintro e w2 ⟨L, l1, l2, A1, A2, c1, c2, rfl, hll, hO1, hO2, hS, hg⟩
 have BR := (BR.src hg (by omega)).alloc (.cells #[.int .i64 L, .slice A1 l1.length c1, .slice A2 l2.length c2] 26)
 have BE := (BE.src hg (by omega)).alloc (.cells #[.int .i64 L, .slice A1 l1.length c1, .slice A2 l2.length c2] 26)
 have hsz := hg.size
 have hB := (below_src hB hg hB.size (by omega)).alloc (by omega) (.cells #[.int .i64 L, .slice A1 l1.length c1, .slice A2 l2.length c2] 26)
 have B7 := Blk.new w2 26 #[.int .i64 L, .slice A1 l1.length c1, .slice A2 l2.length c2]
 have hO1 := hO1.alloc (.cells #[.int .i64 L, .slice A1 l1.length c1, .slice A2 l2.length c2] 26)
 have hO2 := hO2.alloc (.cells #[.int .i64 L, .slice A1 l1.length c1, .slice A2 l2.length c2] 26)
 have hS := hS.alloc (.cells #[.int .i64 L, .slice A1 l1.length c1, .slice A2 l2.length c2] 26)
 have hgb7' : g < w2.heap.size := by omega
 clear hg
 go_wp2_with fail
 generalize w2.alloc (.cells #[.int .i64 L, .slice A1 l1.length c1, .slice A2 l2.length c2] 26) = w7 at *
 generalize w2.heap.size = b7 at *
 have HY : Bytes w7 A n w.heap.size := hb0.out.keep fun p hp => World.cell?_of_block (hB.block p.block hp)
 have hgb7 : g < b7 := hgb7'
 have hM0 : ∀ a1 a2 a3 a4 a5 a6 a7 a8 a9 a10 : Value, MkS9 A n c g w.heap.size w1.heap.size b7 w #[.int .i64 L, .slice A1 l1.length c1, .slice A2 l2.length c2] (.slice A1 l1.length c1) (.slice A2 l2.length c2) (l1.map ic) (l2.map ic) false false false false false false false false false false false false a1 a2 a3 a4 a5 a6 a7 a8 a9 a10 w7 := fun _ _ _ _ _ _ _ _ _ _ => ⟨hS, HY, hB, ⟨hgw.symm, hgl, by omega⟩, hB.size, hO1, hO2, B7, fun _ => BR, nofun, fun _ => BE, nofun, nofun, nofun, nofun, nofun, nofun, nofun, nofun, nofun, nofun, nofun⟩
 refine wp_region_all (fun a0 fL bA v => ∃ v12 v13 v14 v15 v16 v17 v18 v19 v20 v21 v22 v23 v24 v25 v26 v2 v3 : Value, bA = ((((((((((((((((a0.put (some 12) v12).put (some 13) v13).put (some 14) v14).put (some 15) v15).put (some 16) v16).put (some 17) v17).put (some 18) v18).put (some 19) v19).put (some 20) v20).put (some 21) v21).put (some 22) v22).put (some 23) v23).put (some 24) v24).put (some 25) v25).put (some 26) v26).put (some 2) v2).put (some 3) v3 ∧ (MkS9 A n c g w.heap.size w1.heap.size b7 w #[.int .i64 L, .slice A1 l1.length c1, .slice A2 l2.length c2] (.slice A1 l1.length c1) (.slice A2 l2.length c2) (l1.map ic) (l2.map ic) (fL 2) (fL 4) (fL 6) (fL 7) (fL 8) (fL 10) (fL 11) (fL 14) (fL 17) (fL 18) (fL 15) (fL 16) v14 v16 v18 v19 v20 v22 v23 v26 v2 v3 v) ∧ (fL 0 = true → v12 = .pointer (some ⟨g, 0, none⟩)) ∧ (fL 1 = true → v13 = .pointer (some ⟨g, 0, none⟩)) ∧ (fL 2 = true → True) ∧ (fL 3 = true → v15 = .pointer (some ⟨g, 0, none⟩)) ∧ (fL 4 = true → True) ∧ (fL 5 = true → v17 = .pointer (some ⟨g, 0, none⟩)) ∧ (fL 6 = true → True) ∧ (fL 7 = true → True) ∧ (fL 8 = true → True) ∧ (fL 9 = true → v21 = .pointer (some ⟨g, 0, none⟩)) ∧ (fL 10 = true → True) ∧ (fL 11 = true → True) ∧ (fL 12 = true → v24 = .agg #[.int .i64 L, .slice A1 l1.length c1, .slice A2 l2.length c2]) ∧ (fL 13 = true → v25 = .pointer (some ⟨g, 0, none⟩)) ∧ (fL 14 = true → True) ∧ (fL 15 = true → True) ∧ (fL 16 = true → True)) (by kernel_rfl) (by decide +kernel) ?_ ?_ ?_
 ·exact ⟨_, _, _, _, _, _, _, _, _, _, _, _, _, _, _, _, _, put_more (put_more (put_more (put_more (put_more (put_more (put_more (put_more (put_more (put_more (put_more (put_more (put_more (put_more (put_more (put_more (put_more (rfl) 12) 13) 14) 15) 16) 17) 18) 19) 20) 21) 22) 23) 24) 25) 26) 2) 3, (hM0 _ _ _ _ _ _ _ _ _ _).drew, nofun, nofun, nofun, nofun, nofun, nofun, nofun, nofun, nofun, nofun, nofun, nofun, nofun, nofun, nofun, nofun, nofun⟩
 ·rintro fL bA v ⟨v12, v13, v14, v15, v16, v17, v18, v19, v20, v21, v22, v23, v24, v25, v26, v2, v3, rfl, hS, q0, q1, q2, q3, q4, q5, q6, q7, q8, q9, q10, q11, q12, q13, q14, q15, q16⟩ i hi hf o ho hall
  simp only [Act.put, List.setIfInBounds_toArray, List.set_cons_zero, List.set_cons_succ]
  simp only [List.length_cons, List.length_nil] at hi
  have hn : i = 0 ∨ i = 1 ∨ i = 2 ∨ i = 3 ∨ i = 4 ∨ i = 5 ∨ i = 6 ∨ i = 7 ∨ i = 8 ∨ i = 9 ∨ i = 10 ∨ i = 11 ∨ i = 12 ∨ i = 13 ∨ i = 14 ∨ i = 15 ∨ i = 16 ∨ i = 17 ∨ i = 18 := by omega
  clear hi
  rcases hn with rfl | rfl | rfl | rfl | rfl | rfl | rfl | rfl | rfl | rfl | rfl | rfl | rfl | rfl | rfl | rfl | rfl | rfl | rfl
  ·obtain rfl := Option.some.inj ho
   clear hall ho
   refine wpOp_step rfl (fun K hK => ?_)
   go_simp
   exact hK _ _ ⟨_, _, _, _, _, _, _, _, _, _, _, _, _, _, _, _, _, rfl, hS, fun _ => rfl, q1, fun _ => trivial, q3, fun _ => trivial, q5, fun _ => trivial, fun _ => trivial, fun _ => trivial, q9, fun _ => trivial, fun _ => trivial, q12, q13, fun _ => trivial, fun _ => trivial, fun _ => trivial⟩
  ·obtain rfl := Option.some.inj ho
   clear hall ho
   refine wpOp_step rfl (fun K hK => ?_)
   go_simp
   exact hK _ _ ⟨_, _, _, _, _, _, _, _, _, _, _, _, _, _, _, _, _, rfl, hS, q0, fun _ => rfl, fun _ => trivial, q3, fun _ => trivial, q5, fun _ => trivial, fun _ => trivial, fun _ => trivial, q9, fun _ => trivial, fun _ => trivial, q12, q13, fun _ => trivial, fun _ => trivial, fun _ => trivial⟩
  ·obtain rfl := Option.some.inj ho
   obtain rfl := q1 (hall ⟨1, .data⟩ (by simp) rfl)
   clear hall ho
   refine wpOp_step rfl (fun K hK => ?_)
   go_simp
   refine Calls.mono (l01Next_c A n c g _ v hS.s) ?_; rintro e w9 ⟨xa, rfl, ⟨ha1, ha2⟩, ha3, hS9, hg9⟩
   go_simp
   have ha := hS.dr hS9 hg9
   exact hK _ _ ⟨_, _, _, _, _, _, _, _, _, _, _, _, _, _, _, _, _, rfl, { ha with l14 := fun _ => ⟨xa, rfl, by omega, by omega⟩ }, q0, fun _ => rfl, fun _ => trivial, q3, fun _ => trivial, q5, fun _ => trivial, fun _ => trivial, fun _ => trivial, q9, fun _ => trivial, fun _ => trivial, q12, q13, fun _ => trivial, fun _ => trivial, fun _ => trivial⟩
  ·obtain rfl := Option.some.inj ho
   clear hall ho
   refine wpOp_step rfl (fun K hK => ?_)
   go_simp
   exact hK _ _ ⟨_, _, _, _, _, _, _, _, _, _, _, _, _, _, _, _, _, rfl, hS, q0, q1, fun _ => trivial, fun _ => rfl, fun _ => trivial, q5, fun _ => trivial, fun _ => trivial, fun _ => trivial, q9, fun _ => trivial, fun _ => trivial, q12, q13, fun _ => trivial, fun _ => trivial, fun _ => trivial⟩
  ·obtain rfl := Option.some.inj ho
   obtain rfl := q3 (hall ⟨3, .data⟩ (by simp) rfl)
   clear hall ho
   refine wpOp_step rfl (fun K hK => ?_)
   go_simp
   refine Calls.mono (l01Next_c A n c g _ v hS.s) ?_; rintro e w9 ⟨xa, rfl, ⟨ha1, ha2⟩, ha3, hS9, hg9⟩
   go_simp
   have ha := hS.dr hS9 hg9
   exact hK _ _ ⟨_, _, _, _, _, _, _, _, _, _, _, _, _, _, _, _, _, rfl, { ha with l16 := fun _ => ⟨xa, rfl, by omega, by omega⟩ }, q0, q1, fun _ => trivial, fun _ => rfl, fun _ => trivial, q5, fun _ => trivial, fun _ => trivial, fun _ => trivial, q9, fun _ => trivial, fun _ => trivial, q12, q13, fun _ => trivial, fun _ => trivial, fun _ => trivial⟩
  ·obtain rfl := Option.some.inj ho
   clear hall ho
   refine wpOp_step rfl (fun K hK => ?_)
   go_simp
   exact hK _ _ ⟨_, _, _, _, _, _, _, _, _, _, _, _, _, _, _, _, _, rfl, hS, q0, q1, fun _ => trivial, q3, fun _ => trivial, fun _ => rfl, fun _ => trivial, fun _ => trivial, fun _ => trivial, q9, fun _ => trivial, fun _ => trivial, q12, q13, fun _ => trivial, fun _ => trivial, fun _ => trivial⟩
  ·obtain rfl := Option.some.inj ho
   obtain rfl := q5 (hall ⟨5, .data⟩ (by simp) rfl)
   clear hall ho
   refine wpOp_step rfl (fun K hK => ?_)
   go_simp
   refine Calls.mono (l01Next_c A n c g _ v hS.s) ?_; rintro e w9 ⟨xa, rfl, ⟨ha1, ha2⟩, ha3, hS9, hg9⟩
   go_simp
   have ha := hS.dr hS9 hg9
   exact hK _ _ ⟨_, _, _, _, _, _, _, _, _, _, _, _, _, _, _, _, _, rfl, { ha with l18 := fun _ => ⟨xa, rfl, by omega, by omega⟩ }, q0, q1, fun _ => trivial, q3, fun _ => trivial, fun _ => rfl, fun _ => trivial, fun _ => trivial, fun _ => trivial, q9, fun _ => trivial, fun _ => trivial, q12, q13, fun _ => trivial, fun _ => trivial, fun _ => trivial⟩
  ·obtain rfl := Option.some.inj ho
   have e2 : fL 2 = true := hall ⟨2, .data⟩ (by simp) rfl
   have e4 : fL 4 = true := hall ⟨4, .data⟩ (by simp) rfl
   have e6 : fL 6 = true := hall ⟨6, .data⟩ (by simp) rfl
   obtain ⟨xa, rfl, hxa⟩ := hS.l14 e2
   obtain ⟨xb, rfl, hxb⟩ := hS.l16 e4
   obtain ⟨xc, rfl, hxc⟩ := hS.l18 e6
   clear hall ho
   refine wpOp_step rfl (fun K hK => ?_)
   go_simp
   exact hK _ _ ⟨_, _, _, _, _, _, _, _, _, _, _, _, _, _, _, _, _, rfl, hS.s19 hxa hxb hxc, q0, q1, fun _ => trivial, q3, fun _ => trivial, q5, fun _ => trivial, fun _ => trivial, fun _ => trivial, q9, fun _ => trivial, fun _ => trivial, q12, q13, fun _ => trivial, fun _ => trivial, fun _ => trivial⟩
  ·obtain rfl := Option.some.inj ho
   obtain rfl := q0 (hall ⟨0, .data⟩ (by simp) rfl)
   have e7 : fL 7 = true := hall ⟨7, .data⟩ (by simp) rfl
   obtain ⟨qa, xa, xb, xc, rfl, hBa, hqg, hxa, hxb, hxc⟩ := hS.l19 e7
   have hqa : qa ≠ g := by omega
   clear hall ho
   refine wpOp_step rfl (fun K hK => ?_)
   go_simp
   refine Calls.mono (l01Pick_c A n c g qa _ 6 6 v hS.s hBa hqa (by intro v hv; simp only [List.mem_cons, List.not_mem_nil, or_false] at hv; rcases hv with rfl | rfl | rfl | rfl | rfl | rfl; all_goals exact ⟨_, rfl, by omega, by omega⟩) rfl (by decide) (by decide)) ?_; rintro e w9 ⟨ya, rfl, _, hS9, hg9⟩
   go_simp
   have ha := hS.dr hS9 hg9
   exact hK _ _ ⟨_, _, _, _, _, _, _, _, _, _, _, _, _, _, _, _, _, rfl, { ha with l20 := fun _ => ⟨ya, rfl⟩ }, fun _ => rfl, q1, fun _ => trivial, q3, fun _ => trivial, q5, fun _ => trivial, fun _ => trivial, fun _ => trivial, q9, fun _ => trivial, fun _ => trivial, q12, q13, fun _ => trivial, fun _ => trivial, fun _ => trivial⟩
  ·obtain rfl := Option.some.inj ho
   clear hall ho
   refine wpOp_step rfl (fun K hK => ?_)
   go_simp
   exact hK _ _ ⟨_, _, _, _, _, _, _, _, _, _, _, _, _, _, _, _, _, rfl, hS, q0, q1, fun _ => trivial, q3, fun _ => trivial, q5, fun _ => trivial, fun _ => trivial, fun _ => trivial, fun _ => rfl, fun _ => trivial, fun _ => trivial, q12, q13, fun _ => trivial, fun _ => trivial, fun _ => trivial⟩
  ·obtain rfl := Option.some.inj ho
   clear hall ho
   refine wpOp_step rfl (fun K hK => ?_)
   go_simp
   exact hK _ _ ⟨_, _, _, _, _, _, _, _, _, _, _, _, _, _, _, _, _, rfl, hS.s22, q0, q1, fun _ => trivial, q3, fun _ => trivial, q5, fun _ => trivial, fun _ => trivial, fun _ => trivial, q9, fun _ => trivial, fun _ => trivial, q12, q13, fun _ => trivial, fun _ => trivial, fun _ => trivial⟩
  ·obtain rfl := Option.some.inj ho
   obtain rfl := q9 (hall ⟨9, .data⟩ (by simp) rfl)
   have e10 : fL 10 = true := hall ⟨10, .data⟩ (by simp) rfl
   obtain ⟨qa, rfl, hBa, hqg⟩ := hS.l22 e10
   have hqa : qa ≠ g := by omega
   clear hall ho
   refine wpOp_step rfl (fun K hK => ?_)
   go_simp
   refine Calls.mono (l01Pick_c A n c g qa _ 8 8 v hS.s hBa hqa (by intro v hv; simp only [List.mem_cons, List.not_mem_nil, or_false] at hv; rcases hv with rfl | rfl | rfl | rfl | rfl | rfl | rfl | rfl; all_goals exact ⟨_, rfl, by omega, by omega⟩) rfl (by decide) (by decide)) ?_; rintro e w9 ⟨ya, rfl, _, hS9, hg9⟩
   go_simp
   have ha := hS.dr hS9 hg9
   exact hK _ _ ⟨_, _, _, _, _, _, _, _, _, _, _, _, _, _, _, _, _, rfl, { ha with l23 := fun _ => ⟨ya, rfl⟩ }, q0, q1, fun _ => trivial, q3, fun _ => trivial, q5, fun _ => trivial, fun _ => trivial, fun _ => trivial, fun _ => rfl, fun _ => trivial, fun _ => trivial, q12, q13, fun _ => trivial, fun _ => trivial, fun _ => trivial⟩
  ·obtain rfl := Option.some.inj ho
   have B := hS.b7_
   have y0 : v.cell? ⟨b7, 0, none⟩ = some (.int .i64 L) := B.cell 0
   have y1 : v.cell? ⟨b7, 1, none⟩ = some (.slice A1 l1.length c1) := B.cell 1
   have y2 : v.cell? ⟨b7, 2, none⟩ = some (.slice A2 l2.length c2) := B.cell 2
   clear hall ho
   refine wpOp_step rfl (fun K hK => ?_)
   go_simp
   exact hK _ _ ⟨_, _, _, _, _, _, _, _, _, _, _, _, _, _, _, _, _, rfl, hS, q0, q1, fun _ => trivial, q3, fun _ => trivial, q5, fun _ => trivial, fun _ => trivial, fun _ => trivial, q9, fun _ => trivial, fun _ => trivial, fun _ => rfl, q13, fun _ => trivial, fun _ => trivial, fun _ => trivial⟩
  ·obtain rfl := Option.some.inj ho
   clear hall ho
   refine wpOp_step rfl (fun K hK => ?_)
   go_simp
   exact hK _ _ ⟨_, _, _, _, _, _, _, _, _, _, _, _, _, _, _, _, _, rfl, hS, q0, q1, fun _ => trivial, q3, fun _ => trivial, q5, fun _ => trivial, fun _ => trivial, fun _ => trivial, q9, fun _ => trivial, fun _ => trivial, q12, fun _ => rfl, fun _ => trivial, fun _ => trivial, fun _ => trivial⟩
  ·obtain rfl := Option.some.inj ho
   obtain rfl := q13 (hall ⟨13, .data⟩ (by simp) rfl)
   clear hall ho
   refine wpOp_step rfl (fun K hK => ?_)
   go_simp
   refine Calls.mono (l10Draw_c A n c g v hS.s) ?_; rintro e w9 ⟨pa, pb, pc, rfl, hS9, hg9⟩
   go_simp
   have ha := hS.dr hS9 hg9
   exact hK _ _ ⟨_, _, _, _, _, _, _, _, _, _, _, _, _, _, _, _, _, rfl, { ha with l26 := fun _ => ⟨pa, pb, pc, rfl⟩ }, q0, q1, fun _ => trivial, q3, fun _ => trivial, q5, fun _ => trivial, fun _ => trivial, fun _ => trivial, q9, fun _ => trivial, fun _ => trivial, q12, fun _ => rfl, fun _ => trivial, fun _ => trivial, fun _ => trivial⟩
  ·obtain rfl := Option.some.inj ho
   have e8 : fL 8 = true := hall ⟨8, .data⟩ (by simp) rfl
   obtain ⟨xa, rfl⟩ := hS.l20 e8
   clear hall ho
   refine wpOp_step rfl (fun K hK => ?_)
   go_simp
   exact hK _ _ ⟨_, _, _, _, _, _, _, _, _, _, _, _, _, _, _, _, _, rfl, { hS with l2_ := fun _ => ⟨xa, rfl⟩ }, q0, q1, fun _ => trivial, q3, fun _ => trivial, q5, fun _ => trivial, fun _ => trivial, fun _ => trivial, q9, fun _ => trivial, fun _ => trivial, q12, q13, fun _ => trivial, fun _ => trivial, fun _ => trivial⟩
  ·obtain rfl := Option.some.inj ho
   have e11 : fL 11 = true := hall ⟨11, .data⟩ (by simp) rfl
   obtain ⟨xa, rfl⟩ := hS.l23 e11
   clear hall ho
   refine wpOp_step rfl (fun K hK => ?_)
   go_simp
   exact hK _ _ ⟨_, _, _, _, _, _, _, _, _, _, _, _, _, _, _, _, _, rfl, { hS with l3_ := fun _ => ⟨xa, rfl⟩ }, q0, q1, fun _ => trivial, q3, fun _ => trivial, q5, fun _ => trivial, fun _ => trivial, fun _ => trivial, q9, fun _ => trivial, fun _ => trivial, q12, q13, fun _ => trivial, fun _ => trivial, fun _ => trivial⟩
  ·obtain rfl := Option.some.inj ho
   obtain rfl := q12 (hall ⟨12, .data⟩ (by simp) rfl)
   have B := hS.rF hf
   have y0 : v.cell? ⟨w.heap.size, 0, none⟩ = some (.int .i64 0) := B.cell 0
   have y1 : v.cell? ⟨w.heap.size, 1, none⟩ = some (.slice none 0 0) := B.cell 1
   have y2 : v.cell? ⟨w.heap.size, 2, none⟩ = some (.slice none 0 0) := B.cell 2
   have yf0 := B.frozen 0
   have yf1 := B.frozen 1
   have yf2 := B.frozen 2
   have yl := B.lt
   clear hall ho
   refine wpOp_step rfl (fun K hK => ?_)
   go_simp
   exact hK _ _ ⟨_, _, _, _, _, _, _, _, _, _, _, _, _, _, _, _, _, rfl, hS.sR hf, q0, q1, fun _ => trivial, q3, fun _ => trivial, q5, fun _ => trivial, fun _ => trivial, fun _ => trivial, q9, fun _ => trivial, fun _ => trivial, fun _ => rfl, q13, fun _ => trivial, fun _ => trivial, fun _ => trivial⟩
  ·obtain rfl := Option.some.inj ho
   have e14 : fL 14 = true := hall ⟨14, .data⟩ (by simp) rfl
   obtain ⟨pa, pb, pc, rfl⟩ := hS.l26 e14
   have B := hS.eF hf
   have y0 : v.cell? ⟨w.heap.size + 1, 0, none⟩ = some (.int .i64 0) := B.cell 0
   have y1 : v.cell? ⟨w.heap.size + 1, 1, none⟩ = some (.int .i64 0) := B.cell 1
   have y2 : v.cell? ⟨w.heap.size + 1, 2, none⟩ = some (.int .i64 0) := B.cell 2
   have yf0 := B.frozen 0
   have yf1 := B.frozen 1
   have yf2 := B.frozen 2
   have yl := B.lt
   clear hall ho
   refine wpOp_step rfl (fun K hK => ?_)
   go_simp
   exact hK _ _ ⟨_, _, _, _, _, _, _, _, _, _, _, _, _, _, _, _, _, rfl, hS.sE hf, q0, q1, fun _ => trivial, q3, fun _ => trivial, q5, fun _ => trivial, fun _ => trivial, fun _ => trivial, q9, fun _ => trivial, fun _ => trivial, q12, q13, fun _ => trivial, fun _ => trivial, fun _ => trivial⟩
 ·rintro fL bA v ⟨v12, v13, v14, v15, v16, v17, v18, v19, v20, v21, v22, v23, v24, v25, v26, v2, v3, rfl, hS, q0, q1, q2, q3, q4, q5, q6, q7, q8, q9, q10, q11, q12, q13, q14, q15, q16⟩ hall
  simp only [Act.put, List.setIfInBounds_toArray, List.set_cons_zero, List.set_cons_succ]
  simp only [List.length_cons, List.length_nil] at hall
  obtain rfl := q0 (hall 0 (by omega))
  obtain rfl := q1 (hall 1 (by omega))
  have e2 : fL 2 = true := hall 2 (by omega)
  obtain rfl := q3 (hall 3 (by omega))
  have e4 : fL 4 = true := hall 4 (by omega)
  obtain rfl := q5 (hall 5 (by omega))
  have e6 : fL 6 = true := hall 6 (by omega)
  have e7 : fL 7 = true := hall 7 (by omega)
  have e8 : fL 8 = true := hall 8 (by omega)
  obtain rfl := q9 (hall 9 (by omega))
  have e10 : fL 10 = true := hall 10 (by omega)
  have e11 : fL 11 = true := hall 11 (by omega)
  obtain rfl := q12 (hall 12 (by omega))
  obtain rfl := q13 (hall 13 (by omega))
  have e14 : fL 14 = true := hall 14 (by omega)
  have e15 : fL 15 = true := hall 15 (by omega)
  have e16 : fL 16 = true := hall 16 (by omega)
  have e17 : fL 17 = true := hall 17 (by omega)
  have e18 : fL 18 = true := hall 18 (by omega)
  clear hall
  obtain ⟨sd, rfl⟩ := hS.l2_ e15
  obtain ⟨tm, rfl⟩ := hS.l3_ e16
  have BR9 := hS.rT e17
  obtain ⟨p, q, r, BE9⟩ := hS.eT e18
  have yd0 : v.cell? ⟨w.heap.size, 0, none⟩ = some (.int .i64 L) := BR9.cell 0
  have yd1 : v.cell? ⟨w.heap.size, 1, none⟩ = some (.slice A1 l1.length c1) := BR9.cell 1
  have yd2 : v.cell? ⟨w.heap.size, 2, none⟩ = some (.slice A2 l2.length c2) := BR9.cell 2
  have yg0 : v.cell? ⟨w.heap.size + 1, 0, none⟩ = some (.int .i64 p) := BE9.cell 0
  have yg1 : v.cell? ⟨w.heap.size + 1, 1, none⟩ = some (.int .i64 q) := BE9.cell 1
  have yg2 : v.cell? ⟨w.heap.size + 1, 2, none⟩ = some (.int .i64 r) := BE9.cell 2
  go_wp2
  refine bodyPost_ret (v := .tuple #[.int .i64 sd, .int .i64 tm, .agg #[.int .i64 L, .slice A1 l1.length c1, .slice A2 l2.length c2], .agg #[.int .i64 p, .int .i64 q, .int .i64 r]]) (by simp [results, Tryz.results10, go_sem, yd0, yd1, yd2, yg0, yg1, yg2]) rfl ?_
  exact ⟨sd, tm, L, l1, l2, A1, A2, c1, c2, ⟨p, q, r, rfl⟩, ⟨hll.1, hll.2, by simpa using hS.o1.le_cap, by simpa using hS.o2.le_cap⟩, hS.o1.sl, hS.o2.sl, hS.hb⟩
end Go.Proofs.YtednjmldjbndhaaGreat
